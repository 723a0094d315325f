/-
  The table of types of this seat's program, as the engine takes it; that it is the program's. Written by a program (wip/tools/gen_tab.py). No condition.
-/
import Derived.Test.YtnbgaphhhjnjlaaGreatDoorVA
import Derived.Test.YtnbgaphhhjnjlaaGreatDoorProg
set_option linter.unusedSimpArgs false
set_option linter.unusedVariables false
namespace Go.Proofs.YtnbgaphhhjnjlaaGreatDoor
open Go Go.Dm
set_option maxRecDepth 100000

def tabL : List TI := [
  ⟨.no, 0, 0, []⟩,
  ⟨.func, 1, 8, [.o .nilFunc]⟩,
  ⟨.int .i64, 1, 8, [.i .i64 0]⟩,
  ⟨.int .i64, 1, 8, [.i .i64 0]⟩,
  ⟨.bool, 1, 1, [.b false]⟩,
  ⟨.int .u8, 1, 1, [.i .u8 0]⟩,
  ⟨.int .u8, 1, 1, [.i .u8 0]⟩,
  ⟨.struct [(2, 0), (3, 1), (4, 2), (6, 3)], 4, 24, [.i .i64 0, .i .i64 0, .b false, .i .u8 0]⟩,
  ⟨.struct [(2, 0), (3, 1), (4, 2), (6, 3)], 4, 24, [.i .i64 0, .i .i64 0, .b false, .i .u8 0]⟩,
  ⟨.str, 1, 16, [.s []]⟩,
  ⟨.str, 1, 16, [.s []]⟩,
  ⟨.str, 1, 16, [.s []]⟩,
  ⟨.int .u64, 1, 8, [.i .u64 0]⟩,
  ⟨.struct [(9, 0), (12, 1)], 2, 24, [.s [], .i .u64 0]⟩,
  ⟨.struct [(9, 0), (12, 1)], 2, 24, [.s [], .i .u64 0]⟩,
  ⟨.ptr 202, 1, 8, [.o (.pointer none)]⟩,
  ⟨.ptr 205, 1, 8, [.o (.pointer none)]⟩,
  ⟨.ptr 214, 1, 8, [.o (.pointer none)]⟩,
  ⟨.struct [(17, 0)], 1, 8, [.o (.pointer none)]⟩,
  ⟨.struct [(17, 0)], 1, 8, [.o (.pointer none)]⟩,
  ⟨.iface, 1, 16, [.o .nilIface]⟩,
  ⟨.int .i32, 1, 4, [.i .i32 0]⟩,
  ⟨.slice 39, 1, 24, [.nil]⟩,
  ⟨.float, 1, 8, [.f 0]⟩,
  ⟨.slice 5, 1, 24, [.nil]⟩,
  ⟨.struct [(3, 0), (9, 1), (9, 2), (3, 3), (23, 4), (3, 5), (3, 6), (24, 7)], 8, 96, [.i .i64 0, .s [], .s [], .i .i64 0, .f 0, .i .i64 0, .i .i64 0, .nil]⟩,
  ⟨.struct [(3, 0), (9, 1), (9, 2), (3, 3), (23, 4), (3, 5), (3, 6), (24, 7)], 8, 96, [.i .i64 0, .s [], .s [], .i .i64 0, .f 0, .i .i64 0, .i .i64 0, .nil]⟩,
  ⟨.int .i64, 1, 8, [.i .i64 0]⟩,
  ⟨.struct [(3, 0), (3, 1), (23, 2), (24, 3)], 4, 48, [.i .i64 0, .i .i64 0, .f 0, .nil]⟩,
  ⟨.struct [(3, 0), (3, 1), (23, 2), (24, 3)], 4, 48, [.i .i64 0, .i .i64 0, .f 0, .nil]⟩,
  ⟨.slice 9, 1, 24, [.nil]⟩,
  ⟨.struct [(27, 0), (29, 1), (24, 5), (30, 6)], 7, 104, [.i .i64 0, .i .i64 0, .i .i64 0, .f 0, .nil, .nil, .nil]⟩,
  ⟨.struct [(27, 0), (29, 1), (24, 5), (30, 6)], 7, 104, [.i .i64 0, .i .i64 0, .i .i64 0, .f 0, .nil, .nil, .nil]⟩,
  ⟨.no, 0, 0, []⟩,
  ⟨.func, 1, 8, [.o .nilFunc]⟩,
  ⟨.func, 1, 8, [.o .nilFunc]⟩,
  ⟨.func, 1, 8, [.o .nilFunc]⟩,
  ⟨.func, 1, 8, [.o .nilFunc]⟩,
  ⟨.struct [(9, 0), (29, 1)], 5, 64, [.s [], .i .i64 0, .i .i64 0, .f 0, .nil]⟩,
  ⟨.struct [(9, 0), (29, 1)], 5, 64, [.s [], .i .i64 0, .i .i64 0, .f 0, .nil]⟩,
  ⟨.func, 1, 8, [.o .nilFunc]⟩,
  ⟨.slice 73, 1, 24, [.nil]⟩,
  ⟨.slice 46, 1, 24, [.nil]⟩,
  ⟨.func, 1, 8, [.o .nilFunc]⟩,
  ⟨.func, 1, 8, [.o .nilFunc]⟩,
  ⟨.struct [(3, 0), (3, 1), (3, 2), (3, 3), (3, 4), (3, 5), (3, 6), (3, 7), (23, 8), (24, 9), (9, 10)], 11, 112, [.i .i64 0, .i .i64 0, .i .i64 0, .i .i64 0, .i .i64 0, .i .i64 0, .i .i64 0, .i .i64 0, .f 0, .nil, .s []]⟩,
  ⟨.struct [(3, 0), (3, 1), (3, 2), (3, 3), (3, 4), (3, 5), (3, 6), (3, 7), (23, 8), (24, 9), (9, 10)], 11, 112, [.i .i64 0, .i .i64 0, .i .i64 0, .i .i64 0, .i .i64 0, .i .i64 0, .i .i64 0, .i .i64 0, .f 0, .nil, .s []]⟩,
  ⟨.func, 1, 8, [.o .nilFunc]⟩,
  ⟨.func, 1, 8, [.o .nilFunc]⟩,
  ⟨.func, 1, 8, [.o .nilFunc]⟩,
  ⟨.func, 1, 8, [.o .nilFunc]⟩,
  ⟨.func, 1, 8, [.o .nilFunc]⟩,
  ⟨.func, 1, 8, [.o .nilFunc]⟩,
  ⟨.func, 1, 8, [.o .nilFunc]⟩,
  ⟨.func, 1, 8, [.o .nilFunc]⟩,
  ⟨.func, 1, 8, [.o .nilFunc]⟩,
  ⟨.no, 0, 0, []⟩,
  ⟨.func, 1, 8, [.o .nilFunc]⟩,
  ⟨.no, 0, 0, []⟩,
  ⟨.func, 1, 8, [.o .nilFunc]⟩,
  ⟨.func, 1, 8, [.o .nilFunc]⟩,
  ⟨.func, 1, 8, [.o .nilFunc]⟩,
  ⟨.func, 1, 8, [.o .nilFunc]⟩,
  ⟨.func, 1, 8, [.o .nilFunc]⟩,
  ⟨.func, 1, 8, [.o .nilFunc]⟩,
  ⟨.struct [(22, 0), (9, 1), (4, 2), (29, 3)], 7, 96, [.nil, .s [], .b false, .i .i64 0, .i .i64 0, .f 0, .nil]⟩,
  ⟨.struct [(22, 0), (9, 1), (4, 2), (29, 3)], 7, 96, [.nil, .s [], .b false, .i .i64 0, .i .i64 0, .f 0, .nil]⟩,
  ⟨.func, 1, 8, [.o .nilFunc]⟩,
  ⟨.no, 0, 0, []⟩,
  ⟨.func, 1, 8, [.o .nilFunc]⟩,
  ⟨.struct [(3, 0), (3, 1), (3, 2), (23, 3), (24, 4)], 5, 56, [.i .i64 0, .i .i64 0, .i .i64 0, .f 0, .nil]⟩,
  ⟨.struct [(3, 0), (3, 1), (3, 2), (23, 3), (24, 4)], 5, 56, [.i .i64 0, .i .i64 0, .i .i64 0, .f 0, .nil]⟩,
  ⟨.struct [(3, 0), (71, 1)], 6, 64, [.i .i64 0, .i .i64 0, .i .i64 0, .i .i64 0, .f 0, .nil]⟩,
  ⟨.struct [(3, 0), (71, 1)], 6, 64, [.i .i64 0, .i .i64 0, .i .i64 0, .i .i64 0, .f 0, .nil]⟩,
  ⟨.func, 1, 8, [.o .nilFunc]⟩,
  ⟨.func, 1, 8, [.o .nilFunc]⟩,
  ⟨.func, 1, 8, [.o .nilFunc]⟩,
  ⟨.array 24 3, 24, 192, [.i .i64 0, .i .i64 0, .i .i64 0, .i .i64 0, .i .i64 0, .i .i64 0, .i .i64 0, .i .i64 0, .i .i64 0, .i .i64 0, .i .i64 0, .i .i64 0, .i .i64 0, .i .i64 0, .i .i64 0, .i .i64 0, .i .i64 0, .i .i64 0, .i .i64 0, .i .i64 0, .i .i64 0, .i .i64 0, .i .i64 0, .i .i64 0]⟩,
  ⟨.func, 1, 8, [.o .nilFunc]⟩,
  ⟨.func, 1, 8, [.o .nilFunc]⟩,
  ⟨.func, 1, 8, [.o .nilFunc]⟩,
  ⟨.func, 1, 8, [.o .nilFunc]⟩,
  ⟨.func, 1, 8, [.o .nilFunc]⟩,
  ⟨.func, 1, 8, [.o .nilFunc]⟩,
  ⟨.func, 1, 8, [.o .nilFunc]⟩,
  ⟨.int .u64, 1, 8, [.i .u64 0]⟩,
  ⟨.array 12 23, 12, 96, [.f 0, .f 0, .f 0, .f 0, .f 0, .f 0, .f 0, .f 0, .f 0, .f 0, .f 0, .f 0]⟩,
  ⟨.func, 1, 8, [.o .nilFunc]⟩,
  ⟨.no, 0, 0, []⟩,
  ⟨.func, 1, 8, [.o .nilFunc]⟩,
  ⟨.func, 1, 8, [.o .nilFunc]⟩,
  ⟨.func, 1, 8, [.o .nilFunc]⟩,
  ⟨.func, 1, 8, [.o .nilFunc]⟩,
  ⟨.func, 1, 8, [.o .nilFunc]⟩,
  ⟨.func, 1, 8, [.o .nilFunc]⟩,
  ⟨.func, 1, 8, [.o .nilFunc]⟩,
  ⟨.func, 1, 8, [.o .nilFunc]⟩,
  ⟨.ptr 99, 1, 8, [.o (.pointer none)]⟩,
  ⟨.struct [(22, 0), (9, 1), (30, 2), (3, 3)], 4, 72, [.nil, .s [], .nil, .i .i64 0]⟩,
  ⟨.struct [(22, 0), (9, 1), (30, 2), (3, 3)], 4, 72, [.nil, .s [], .nil, .i .i64 0]⟩,
  ⟨.no, 0, 0, []⟩,
  ⟨.func, 1, 8, [.o .nilFunc]⟩,
  ⟨.func, 1, 8, [.o .nilFunc]⟩,
  ⟨.func, 1, 8, [.o .nilFunc]⟩,
  ⟨.func, 1, 8, [.o .nilFunc]⟩,
  ⟨.func, 1, 8, [.o .nilFunc]⟩,
  ⟨.func, 1, 8, [.o .nilFunc]⟩,
  ⟨.func, 1, 8, [.o .nilFunc]⟩,
  ⟨.func, 1, 8, [.o .nilFunc]⟩,
  ⟨.func, 1, 8, [.o .nilFunc]⟩,
  ⟨.func, 1, 8, [.o .nilFunc]⟩,
  ⟨.func, 1, 8, [.o .nilFunc]⟩,
  ⟨.func, 1, 8, [.o .nilFunc]⟩,
  ⟨.func, 1, 8, [.o .nilFunc]⟩,
  ⟨.array 6 9, 6, 96, [.s [], .s [], .s [], .s [], .s [], .s []]⟩,
  ⟨.func, 1, 8, [.o .nilFunc]⟩,
  ⟨.func, 1, 8, [.o .nilFunc]⟩,
  ⟨.no, 0, 0, []⟩,
  ⟨.func, 1, 8, [.o .nilFunc]⟩,
  ⟨.func, 1, 8, [.o .nilFunc]⟩,
  ⟨.func, 1, 8, [.o .nilFunc]⟩,
  ⟨.func, 1, 8, [.o .nilFunc]⟩,
  ⟨.func, 1, 8, [.o .nilFunc]⟩,
  ⟨.func, 1, 8, [.o .nilFunc]⟩,
  ⟨.func, 1, 8, [.o .nilFunc]⟩,
  ⟨.func, 1, 8, [.o .nilFunc]⟩,
  ⟨.func, 1, 8, [.o .nilFunc]⟩,
  ⟨.func, 1, 8, [.o .nilFunc]⟩,
  ⟨.func, 1, 8, [.o .nilFunc]⟩,
  ⟨.func, 1, 8, [.o .nilFunc]⟩,
  ⟨.func, 1, 8, [.o .nilFunc]⟩,
  ⟨.func, 1, 8, [.o .nilFunc]⟩,
  ⟨.func, 1, 8, [.o .nilFunc]⟩,
  ⟨.func, 1, 8, [.o .nilFunc]⟩,
  ⟨.func, 1, 8, [.o .nilFunc]⟩,
  ⟨.func, 1, 8, [.o .nilFunc]⟩,
  ⟨.func, 1, 8, [.o .nilFunc]⟩,
  ⟨.func, 1, 8, [.o .nilFunc]⟩,
  ⟨.func, 1, 8, [.o .nilFunc]⟩,
  ⟨.func, 1, 8, [.o .nilFunc]⟩,
  ⟨.int .u64, 1, 8, [.i .u64 0]⟩,
  ⟨.func, 1, 8, [.o .nilFunc]⟩,
  ⟨.func, 1, 8, [.o .nilFunc]⟩,
  ⟨.func, 1, 8, [.o .nilFunc]⟩,
  ⟨.slice 24, 1, 24, [.nil]⟩,
  ⟨.func, 1, 8, [.o .nilFunc]⟩,
  ⟨.func, 1, 8, [.o .nilFunc]⟩,
  ⟨.ptr 149, 1, 8, [.o (.pointer none)]⟩,
  ⟨.struct [(24, 0)], 1, 24, [.nil]⟩,
  ⟨.struct [(24, 0)], 1, 24, [.nil]⟩,
  ⟨.func, 1, 8, [.o .nilFunc]⟩,
  ⟨.func, 1, 8, [.o .nilFunc]⟩,
  ⟨.no, 0, 0, []⟩,
  ⟨.func, 1, 8, [.o .nilFunc]⟩,
  ⟨.func, 1, 8, [.o .nilFunc]⟩,
  ⟨.slice 30, 1, 24, [.nil]⟩,
  ⟨.func, 1, 8, [.o .nilFunc]⟩,
  ⟨.func, 1, 8, [.o .nilFunc]⟩,
  ⟨.int .i64, 1, 8, [.i .i64 0]⟩,
  ⟨.no, 0, 0, []⟩,
  ⟨.func, 1, 8, [.o .nilFunc]⟩,
  ⟨.func, 1, 8, [.o .nilFunc]⟩,
  ⟨.func, 1, 8, [.o .nilFunc]⟩,
  ⟨.func, 1, 8, [.o .nilFunc]⟩,
  ⟨.func, 1, 8, [.o .nilFunc]⟩,
  ⟨.int .u32, 1, 4, [.i .u32 0]⟩,
  ⟨.func, 1, 8, [.o .nilFunc]⟩,
  ⟨.func, 1, 8, [.o .nilFunc]⟩,
  ⟨.func, 1, 8, [.o .nilFunc]⟩,
  ⟨.func, 1, 8, [.o .nilFunc]⟩,
  ⟨.func, 1, 8, [.o .nilFunc]⟩,
  ⟨.func, 1, 8, [.o .nilFunc]⟩,
  ⟨.no, 0, 0, []⟩,
  ⟨.func, 1, 8, [.o .nilFunc]⟩,
  ⟨.slice 3, 1, 24, [.nil]⟩,
  ⟨.int .u64, 1, 8, [.i .u64 0]⟩,
  ⟨.func, 1, 8, [.o .nilFunc]⟩,
  ⟨.func, 1, 8, [.o .nilFunc]⟩,
  ⟨.func, 1, 8, [.o .nilFunc]⟩,
  ⟨.ptr 3, 1, 8, [.o (.pointer none)]⟩,
  ⟨.func, 1, 8, [.o .nilFunc]⟩,
  ⟨.func, 1, 8, [.o .nilFunc]⟩,
  ⟨.func, 1, 8, [.o .nilFunc]⟩,
  ⟨.func, 1, 8, [.o .nilFunc]⟩,
  ⟨.func, 1, 8, [.o .nilFunc]⟩,
  ⟨.func, 1, 8, [.o .nilFunc]⟩,
  ⟨.func, 1, 8, [.o .nilFunc]⟩,
  ⟨.func, 1, 8, [.o .nilFunc]⟩,
  ⟨.ptr 175, 1, 8, [.o (.pointer none)]⟩,
  ⟨.func, 1, 8, [.o .nilFunc]⟩,
  ⟨.func, 1, 8, [.o .nilFunc]⟩,
  ⟨.func, 1, 8, [.o .nilFunc]⟩,
  ⟨.array 256 5, 256, 256, [.i .u8 0, .i .u8 0, .i .u8 0, .i .u8 0, .i .u8 0, .i .u8 0, .i .u8 0, .i .u8 0, .i .u8 0, .i .u8 0, .i .u8 0, .i .u8 0, .i .u8 0, .i .u8 0, .i .u8 0, .i .u8 0, .i .u8 0, .i .u8 0, .i .u8 0, .i .u8 0, .i .u8 0, .i .u8 0, .i .u8 0, .i .u8 0, .i .u8 0, .i .u8 0, .i .u8 0, .i .u8 0, .i .u8 0, .i .u8 0, .i .u8 0, .i .u8 0, .i .u8 0, .i .u8 0, .i .u8 0, .i .u8 0, .i .u8 0, .i .u8 0, .i .u8 0, .i .u8 0, .i .u8 0, .i .u8 0, .i .u8 0, .i .u8 0, .i .u8 0, .i .u8 0, .i .u8 0, .i .u8 0, .i .u8 0, .i .u8 0, .i .u8 0, .i .u8 0, .i .u8 0, .i .u8 0, .i .u8 0, .i .u8 0, .i .u8 0, .i .u8 0, .i .u8 0, .i .u8 0, .i .u8 0, .i .u8 0, .i .u8 0, .i .u8 0, .i .u8 0, .i .u8 0, .i .u8 0, .i .u8 0, .i .u8 0, .i .u8 0, .i .u8 0, .i .u8 0, .i .u8 0, .i .u8 0, .i .u8 0, .i .u8 0, .i .u8 0, .i .u8 0, .i .u8 0, .i .u8 0, .i .u8 0, .i .u8 0, .i .u8 0, .i .u8 0, .i .u8 0, .i .u8 0, .i .u8 0, .i .u8 0, .i .u8 0, .i .u8 0, .i .u8 0, .i .u8 0, .i .u8 0, .i .u8 0, .i .u8 0, .i .u8 0, .i .u8 0, .i .u8 0, .i .u8 0, .i .u8 0, .i .u8 0, .i .u8 0, .i .u8 0, .i .u8 0, .i .u8 0, .i .u8 0, .i .u8 0, .i .u8 0, .i .u8 0, .i .u8 0, .i .u8 0, .i .u8 0, .i .u8 0, .i .u8 0, .i .u8 0, .i .u8 0, .i .u8 0, .i .u8 0, .i .u8 0, .i .u8 0, .i .u8 0, .i .u8 0, .i .u8 0, .i .u8 0, .i .u8 0, .i .u8 0, .i .u8 0, .i .u8 0, .i .u8 0, .i .u8 0, .i .u8 0, .i .u8 0, .i .u8 0, .i .u8 0, .i .u8 0, .i .u8 0, .i .u8 0, .i .u8 0, .i .u8 0, .i .u8 0, .i .u8 0, .i .u8 0, .i .u8 0, .i .u8 0, .i .u8 0, .i .u8 0, .i .u8 0, .i .u8 0, .i .u8 0, .i .u8 0, .i .u8 0, .i .u8 0, .i .u8 0, .i .u8 0, .i .u8 0, .i .u8 0, .i .u8 0, .i .u8 0, .i .u8 0, .i .u8 0, .i .u8 0, .i .u8 0, .i .u8 0, .i .u8 0, .i .u8 0, .i .u8 0, .i .u8 0, .i .u8 0, .i .u8 0, .i .u8 0, .i .u8 0, .i .u8 0, .i .u8 0, .i .u8 0, .i .u8 0, .i .u8 0, .i .u8 0, .i .u8 0, .i .u8 0, .i .u8 0, .i .u8 0, .i .u8 0, .i .u8 0, .i .u8 0, .i .u8 0, .i .u8 0, .i .u8 0, .i .u8 0, .i .u8 0, .i .u8 0, .i .u8 0, .i .u8 0, .i .u8 0, .i .u8 0, .i .u8 0, .i .u8 0, .i .u8 0, .i .u8 0, .i .u8 0, .i .u8 0, .i .u8 0, .i .u8 0, .i .u8 0, .i .u8 0, .i .u8 0, .i .u8 0, .i .u8 0, .i .u8 0, .i .u8 0, .i .u8 0, .i .u8 0, .i .u8 0, .i .u8 0, .i .u8 0, .i .u8 0, .i .u8 0, .i .u8 0, .i .u8 0, .i .u8 0, .i .u8 0, .i .u8 0, .i .u8 0, .i .u8 0, .i .u8 0, .i .u8 0, .i .u8 0, .i .u8 0, .i .u8 0, .i .u8 0, .i .u8 0, .i .u8 0, .i .u8 0, .i .u8 0, .i .u8 0, .i .u8 0, .i .u8 0, .i .u8 0, .i .u8 0, .i .u8 0, .i .u8 0, .i .u8 0, .i .u8 0, .i .u8 0, .i .u8 0, .i .u8 0, .i .u8 0, .i .u8 0, .i .u8 0, .i .u8 0, .i .u8 0, .i .u8 0, .i .u8 0, .i .u8 0, .i .u8 0, .i .u8 0, .i .u8 0]⟩,
  ⟨.struct [(5, 0), (5, 1)], 2, 2, [.i .u8 0, .i .u8 0]⟩,
  ⟨.struct [(5, 0), (5, 1)], 2, 2, [.i .u8 0, .i .u8 0]⟩,
  ⟨.array 16 194, 32, 32, [.i .u8 0, .i .u8 0, .i .u8 0, .i .u8 0, .i .u8 0, .i .u8 0, .i .u8 0, .i .u8 0, .i .u8 0, .i .u8 0, .i .u8 0, .i .u8 0, .i .u8 0, .i .u8 0, .i .u8 0, .i .u8 0, .i .u8 0, .i .u8 0, .i .u8 0, .i .u8 0, .i .u8 0, .i .u8 0, .i .u8 0, .i .u8 0, .i .u8 0, .i .u8 0, .i .u8 0, .i .u8 0, .i .u8 0, .i .u8 0, .i .u8 0, .i .u8 0]⟩,
  ⟨.no, 0, 0, []⟩,
  ⟨.func, 1, 8, [.o .nilFunc]⟩,
  ⟨.func, 1, 8, [.o .nilFunc]⟩,
  ⟨.func, 1, 8, [.o .nilFunc]⟩,
  ⟨.func, 1, 8, [.o .nilFunc]⟩,
  ⟨.struct [(17, 0), (17, 1), (17, 2), (9, 3)], 4, 40, [.o (.pointer none), .o (.pointer none), .o (.pointer none), .s []]⟩,
  ⟨.struct [(17, 0), (17, 1), (17, 2), (9, 3)], 4, 40, [.o (.pointer none), .o (.pointer none), .o (.pointer none), .s []]⟩,
  ⟨.no, 0, 0, []⟩,
  ⟨.no, 0, 0, []⟩,
  ⟨.no, 0, 0, []⟩,
  ⟨.func, 1, 8, [.o .nilFunc]⟩,
  ⟨.int .u8, 1, 1, [.i .u8 0]⟩,
  ⟨.int .u8, 1, 1, [.i .u8 0]⟩,
  ⟨.func, 1, 8, [.o .nilFunc]⟩,
  ⟨.ptr 5, 1, 8, [.o (.pointer none)]⟩,
  ⟨.int .i32, 1, 4, [.i .i32 0]⟩,
  ⟨.int .i32, 1, 4, [.i .i32 0]⟩,
  ⟨.struct [(12, 0), (12, 1), (165, 2), (207, 3), (5, 4), (5, 5), (208, 6), (209, 7), (210, 8), (211, 9), (212, 10)], 11, 48, [.i .u64 0, .i .u64 0, .i .u32 0, .i .u8 0, .i .u8 0, .i .u8 0, .i .u8 0, .o .nilFunc, .o (.pointer none), .i .i32 0, .i .i32 0]⟩,
  ⟨.struct [(12, 0), (12, 1), (165, 2), (207, 3), (5, 4), (5, 5), (208, 6), (209, 7), (210, 8), (211, 9), (212, 10)], 11, 48, [.i .u64 0, .i .u64 0, .i .u32 0, .i .u8 0, .i .u8 0, .i .u8 0, .i .u8 0, .o .nilFunc, .o (.pointer none), .i .i32 0, .i .i32 0]⟩,
  ⟨.no, 0, 0, []⟩]
def tab : Tab := fun t => tabL.getD t ⟨.no, 0, 0, []⟩
abbrev OkF (t : Nat) : Prop := OkTI Tryz.prog t ⟨.func, 1, 8, [.o .nilFunc]⟩
theorem okF {t : Nat} (i : _) (hu : DescOK (Tryz.prog.underlying t) .func) (hi : Tryz.prog.info? t = some i) (h1 : i.size = 1) (h2 : i.bytes = 8) (h3 : i.zero = some .nilFunc) : OkF t :=
  ⟨hu, i, .nilFunc, hi, h1, h2, h3, rfl, rfl, (fun h => by cases h), fun _ => ⟨rfl, rfl⟩⟩
theorem tab1 : tab 1 = ⟨.func, 1, 8, [.o .nilFunc]⟩ := rfl
theorem okT1 : OkF 1 := okF Tryz.t1 (by rw [Tryz.underlying1]; trivial) (by kernel_rfl) rfl rfl rfl
theorem tab2 : tab 2 = ⟨.int .i64, 1, 8, [.i .i64 0]⟩ := rfl
theorem okT2 : OkTI Tryz.prog 2 ⟨.int .i64, 1, 8, [.i .i64 0]⟩ := ⟨by rw [Tryz.underlying2]; first | trivial | rfl | exact ⟨rfl, rfl⟩, Tryz.t2, .int .i64 0, by kernel_rfl, rfl, rfl, rfl, rfl, rfl, (fun h => by cases h), fun _ => ⟨rfl, rfl⟩⟩
theorem tab3 : tab 3 = ⟨.int .i64, 1, 8, [.i .i64 0]⟩ := rfl
theorem okT3 : OkTI Tryz.prog 3 ⟨.int .i64, 1, 8, [.i .i64 0]⟩ := ⟨by rw [Tryz.underlying3]; first | trivial | rfl | exact ⟨rfl, rfl⟩, Tryz.t3, .int .i64 0, by kernel_rfl, rfl, rfl, rfl, rfl, rfl, (fun h => by cases h), fun _ => ⟨rfl, rfl⟩⟩
theorem tab4 : tab 4 = ⟨.bool, 1, 1, [.b false]⟩ := rfl
theorem okT4 : OkTI Tryz.prog 4 ⟨.bool, 1, 1, [.b false]⟩ := ⟨by rw [Tryz.underlying4]; first | trivial | rfl | exact ⟨rfl, rfl⟩, Tryz.t4, .bool false, by kernel_rfl, rfl, rfl, rfl, rfl, rfl, (fun h => by cases h), fun _ => ⟨rfl, rfl⟩⟩
theorem tab5 : tab 5 = ⟨.int .u8, 1, 1, [.i .u8 0]⟩ := rfl
theorem okT5 : OkTI Tryz.prog 5 ⟨.int .u8, 1, 1, [.i .u8 0]⟩ := ⟨by rw [Tryz.underlying5]; first | trivial | rfl | exact ⟨rfl, rfl⟩, Tryz.t5, .int .u8 0, by kernel_rfl, rfl, rfl, rfl, rfl, rfl, (fun h => by cases h), fun _ => ⟨rfl, rfl⟩⟩
theorem tab6 : tab 6 = ⟨.int .u8, 1, 1, [.i .u8 0]⟩ := rfl
theorem okT6 : OkTI Tryz.prog 6 ⟨.int .u8, 1, 1, [.i .u8 0]⟩ := ⟨by rw [Tryz.underlying6]; first | trivial | rfl | exact ⟨rfl, rfl⟩, Tryz.t6, .int .u8 0, by kernel_rfl, rfl, rfl, rfl, rfl, rfl, (fun h => by cases h), fun _ => ⟨rfl, rfl⟩⟩
theorem tab7 : tab 7 = ⟨.struct [(2, 0), (3, 1), (4, 2), (6, 3)], 4, 24, [.i .i64 0, .i .i64 0, .b false, .i .u8 0]⟩ := rfl
theorem okT7 : OkTI Tryz.prog 7 ⟨.struct [(2, 0), (3, 1), (4, 2), (6, 3)], 4, 24, [.i .i64 0, .i .i64 0, .b false, .i .u8 0]⟩ := ⟨by rw [Tryz.underlying7]; first | trivial | rfl | exact ⟨rfl, rfl⟩, Tryz.t7, .agg #[.int .i64 0, .int .i64 0, .bool false, .int .u8 0], by kernel_rfl, rfl, rfl, rfl, rfl, rfl, fun _ => ⟨_, rfl⟩, (fun h => by cases h)⟩
theorem tab8 : tab 8 = ⟨.struct [(2, 0), (3, 1), (4, 2), (6, 3)], 4, 24, [.i .i64 0, .i .i64 0, .b false, .i .u8 0]⟩ := rfl
theorem okT8 : OkTI Tryz.prog 8 ⟨.struct [(2, 0), (3, 1), (4, 2), (6, 3)], 4, 24, [.i .i64 0, .i .i64 0, .b false, .i .u8 0]⟩ := ⟨by rw [Tryz.underlying8]; first | trivial | rfl | exact ⟨rfl, rfl⟩, Tryz.t8, .agg #[.int .i64 0, .int .i64 0, .bool false, .int .u8 0], by kernel_rfl, rfl, rfl, rfl, rfl, rfl, fun _ => ⟨_, rfl⟩, (fun h => by cases h)⟩
theorem tab9 : tab 9 = ⟨.str, 1, 16, [.s []]⟩ := rfl
theorem okT9 : OkTI Tryz.prog 9 ⟨.str, 1, 16, [.s []]⟩ := ⟨by rw [Tryz.underlying9]; first | trivial | rfl | exact ⟨rfl, rfl⟩, Tryz.t9, .string ⟨#[]⟩, by kernel_rfl, rfl, rfl, rfl, rfl, rfl, (fun h => by cases h), fun _ => ⟨rfl, rfl⟩⟩
theorem tab10 : tab 10 = ⟨.str, 1, 16, [.s []]⟩ := rfl
theorem okT10 : OkTI Tryz.prog 10 ⟨.str, 1, 16, [.s []]⟩ := ⟨by rw [Tryz.underlying10]; first | trivial | rfl | exact ⟨rfl, rfl⟩, Tryz.t10, .string ⟨#[]⟩, by kernel_rfl, rfl, rfl, rfl, rfl, rfl, (fun h => by cases h), fun _ => ⟨rfl, rfl⟩⟩
theorem tab11 : tab 11 = ⟨.str, 1, 16, [.s []]⟩ := rfl
theorem okT11 : OkTI Tryz.prog 11 ⟨.str, 1, 16, [.s []]⟩ := ⟨by rw [Tryz.underlying11]; first | trivial | rfl | exact ⟨rfl, rfl⟩, Tryz.t11, .string ⟨#[]⟩, by kernel_rfl, rfl, rfl, rfl, rfl, rfl, (fun h => by cases h), fun _ => ⟨rfl, rfl⟩⟩
theorem tab12 : tab 12 = ⟨.int .u64, 1, 8, [.i .u64 0]⟩ := rfl
theorem okT12 : OkTI Tryz.prog 12 ⟨.int .u64, 1, 8, [.i .u64 0]⟩ := ⟨by rw [Tryz.underlying12]; first | trivial | rfl | exact ⟨rfl, rfl⟩, Tryz.t12, .int .u64 0, by kernel_rfl, rfl, rfl, rfl, rfl, rfl, (fun h => by cases h), fun _ => ⟨rfl, rfl⟩⟩
theorem tab13 : tab 13 = ⟨.struct [(9, 0), (12, 1)], 2, 24, [.s [], .i .u64 0]⟩ := rfl
theorem okT13 : OkTI Tryz.prog 13 ⟨.struct [(9, 0), (12, 1)], 2, 24, [.s [], .i .u64 0]⟩ := ⟨by rw [Tryz.underlying13]; first | trivial | rfl | exact ⟨rfl, rfl⟩, Tryz.t13, .agg #[.string ⟨#[]⟩, .int .u64 0], by kernel_rfl, rfl, rfl, rfl, rfl, rfl, fun _ => ⟨_, rfl⟩, (fun h => by cases h)⟩
theorem tab14 : tab 14 = ⟨.struct [(9, 0), (12, 1)], 2, 24, [.s [], .i .u64 0]⟩ := rfl
theorem okT14 : OkTI Tryz.prog 14 ⟨.struct [(9, 0), (12, 1)], 2, 24, [.s [], .i .u64 0]⟩ := ⟨by rw [Tryz.underlying14]; first | trivial | rfl | exact ⟨rfl, rfl⟩, Tryz.t14, .agg #[.string ⟨#[]⟩, .int .u64 0], by kernel_rfl, rfl, rfl, rfl, rfl, rfl, fun _ => ⟨_, rfl⟩, (fun h => by cases h)⟩
theorem tab15 : tab 15 = ⟨.ptr 202, 1, 8, [.o (.pointer none)]⟩ := rfl
theorem okT15 : OkTI Tryz.prog 15 ⟨.ptr 202, 1, 8, [.o (.pointer none)]⟩ := ⟨by rw [Tryz.underlying15]; first | trivial | rfl | exact ⟨rfl, rfl⟩, Tryz.t15, .pointer none, by kernel_rfl, rfl, rfl, rfl, rfl, rfl, (fun h => by cases h), fun _ => ⟨rfl, rfl⟩⟩
theorem tab16 : tab 16 = ⟨.ptr 205, 1, 8, [.o (.pointer none)]⟩ := rfl
theorem okT16 : OkTI Tryz.prog 16 ⟨.ptr 205, 1, 8, [.o (.pointer none)]⟩ := ⟨by rw [Tryz.underlying16]; first | trivial | rfl | exact ⟨rfl, rfl⟩, Tryz.t16, .pointer none, by kernel_rfl, rfl, rfl, rfl, rfl, rfl, (fun h => by cases h), fun _ => ⟨rfl, rfl⟩⟩
theorem tab17 : tab 17 = ⟨.ptr 214, 1, 8, [.o (.pointer none)]⟩ := rfl
theorem okT17 : OkTI Tryz.prog 17 ⟨.ptr 214, 1, 8, [.o (.pointer none)]⟩ := ⟨by rw [Tryz.underlying17]; first | trivial | rfl | exact ⟨rfl, rfl⟩, Tryz.t17, .pointer none, by kernel_rfl, rfl, rfl, rfl, rfl, rfl, (fun h => by cases h), fun _ => ⟨rfl, rfl⟩⟩
theorem tab18 : tab 18 = ⟨.struct [(17, 0)], 1, 8, [.o (.pointer none)]⟩ := rfl
theorem okT18 : OkTI Tryz.prog 18 ⟨.struct [(17, 0)], 1, 8, [.o (.pointer none)]⟩ := ⟨by rw [Tryz.underlying18]; first | trivial | rfl | exact ⟨rfl, rfl⟩, Tryz.t18, .agg #[.pointer none], by kernel_rfl, rfl, rfl, rfl, rfl, rfl, fun _ => ⟨_, rfl⟩, (fun h => by cases h)⟩
theorem tab19 : tab 19 = ⟨.struct [(17, 0)], 1, 8, [.o (.pointer none)]⟩ := rfl
theorem okT19 : OkTI Tryz.prog 19 ⟨.struct [(17, 0)], 1, 8, [.o (.pointer none)]⟩ := ⟨by rw [Tryz.underlying19]; first | trivial | rfl | exact ⟨rfl, rfl⟩, Tryz.t19, .agg #[.pointer none], by kernel_rfl, rfl, rfl, rfl, rfl, rfl, fun _ => ⟨_, rfl⟩, (fun h => by cases h)⟩
theorem tab20 : tab 20 = ⟨.iface, 1, 16, [.o .nilIface]⟩ := rfl
theorem okT20 : OkTI Tryz.prog 20 ⟨.iface, 1, 16, [.o .nilIface]⟩ := ⟨by rw [Tryz.underlying20]; first | trivial | rfl | exact ⟨rfl, rfl⟩, Tryz.t20, .nilIface, by kernel_rfl, rfl, rfl, rfl, rfl, rfl, (fun h => by cases h), fun _ => ⟨rfl, rfl⟩⟩
theorem tab21 : tab 21 = ⟨.int .i32, 1, 4, [.i .i32 0]⟩ := rfl
theorem okT21 : OkTI Tryz.prog 21 ⟨.int .i32, 1, 4, [.i .i32 0]⟩ := ⟨by rw [Tryz.underlying21]; first | trivial | rfl | exact ⟨rfl, rfl⟩, Tryz.t21, .int .i32 0, by kernel_rfl, rfl, rfl, rfl, rfl, rfl, (fun h => by cases h), fun _ => ⟨rfl, rfl⟩⟩
theorem tab22 : tab 22 = ⟨.slice 39, 1, 24, [.nil]⟩ := rfl
theorem okT22 : OkTI Tryz.prog 22 ⟨.slice 39, 1, 24, [.nil]⟩ := ⟨by rw [Tryz.underlying22]; first | trivial | rfl | exact ⟨rfl, rfl⟩, Tryz.t22, .slice none 0 0, by kernel_rfl, rfl, rfl, rfl, rfl, rfl, (fun h => by cases h), fun _ => ⟨rfl, rfl⟩⟩
theorem tab23 : tab 23 = ⟨.float, 1, 8, [.f 0]⟩ := rfl
theorem okT23 : OkTI Tryz.prog 23 ⟨.float, 1, 8, [.f 0]⟩ := ⟨by rw [Tryz.underlying23]; first | trivial | rfl | exact ⟨rfl, rfl⟩, Tryz.t23, .float .f64 0, by kernel_rfl, rfl, rfl, rfl, rfl, rfl, (fun h => by cases h), fun _ => ⟨rfl, rfl⟩⟩
theorem tab24 : tab 24 = ⟨.slice 5, 1, 24, [.nil]⟩ := rfl
theorem okT24 : OkTI Tryz.prog 24 ⟨.slice 5, 1, 24, [.nil]⟩ := ⟨by rw [Tryz.underlying24]; first | trivial | rfl | exact ⟨rfl, rfl⟩, Tryz.t24, .slice none 0 0, by kernel_rfl, rfl, rfl, rfl, rfl, rfl, (fun h => by cases h), fun _ => ⟨rfl, rfl⟩⟩
theorem tab25 : tab 25 = ⟨.struct [(3, 0), (9, 1), (9, 2), (3, 3), (23, 4), (3, 5), (3, 6), (24, 7)], 8, 96, [.i .i64 0, .s [], .s [], .i .i64 0, .f 0, .i .i64 0, .i .i64 0, .nil]⟩ := rfl
theorem okT25 : OkTI Tryz.prog 25 ⟨.struct [(3, 0), (9, 1), (9, 2), (3, 3), (23, 4), (3, 5), (3, 6), (24, 7)], 8, 96, [.i .i64 0, .s [], .s [], .i .i64 0, .f 0, .i .i64 0, .i .i64 0, .nil]⟩ := ⟨by rw [Tryz.underlying25]; first | trivial | rfl | exact ⟨rfl, rfl⟩, Tryz.t25, .agg #[.int .i64 0, .string ⟨#[]⟩, .string ⟨#[]⟩, .int .i64 0, .float .f64 0, .int .i64 0, .int .i64 0, .slice none 0 0], by kernel_rfl, rfl, rfl, rfl, rfl, rfl, fun _ => ⟨_, rfl⟩, (fun h => by cases h)⟩
theorem tab26 : tab 26 = ⟨.struct [(3, 0), (9, 1), (9, 2), (3, 3), (23, 4), (3, 5), (3, 6), (24, 7)], 8, 96, [.i .i64 0, .s [], .s [], .i .i64 0, .f 0, .i .i64 0, .i .i64 0, .nil]⟩ := rfl
theorem okT26 : OkTI Tryz.prog 26 ⟨.struct [(3, 0), (9, 1), (9, 2), (3, 3), (23, 4), (3, 5), (3, 6), (24, 7)], 8, 96, [.i .i64 0, .s [], .s [], .i .i64 0, .f 0, .i .i64 0, .i .i64 0, .nil]⟩ := ⟨by rw [Tryz.underlying26]; first | trivial | rfl | exact ⟨rfl, rfl⟩, Tryz.t26, .agg #[.int .i64 0, .string ⟨#[]⟩, .string ⟨#[]⟩, .int .i64 0, .float .f64 0, .int .i64 0, .int .i64 0, .slice none 0 0], by kernel_rfl, rfl, rfl, rfl, rfl, rfl, fun _ => ⟨_, rfl⟩, (fun h => by cases h)⟩
theorem tab27 : tab 27 = ⟨.int .i64, 1, 8, [.i .i64 0]⟩ := rfl
theorem okT27 : OkTI Tryz.prog 27 ⟨.int .i64, 1, 8, [.i .i64 0]⟩ := ⟨by rw [Tryz.underlying27]; first | trivial | rfl | exact ⟨rfl, rfl⟩, Tryz.t27, .int .i64 0, by kernel_rfl, rfl, rfl, rfl, rfl, rfl, (fun h => by cases h), fun _ => ⟨rfl, rfl⟩⟩
theorem tab28 : tab 28 = ⟨.struct [(3, 0), (3, 1), (23, 2), (24, 3)], 4, 48, [.i .i64 0, .i .i64 0, .f 0, .nil]⟩ := rfl
theorem okT28 : OkTI Tryz.prog 28 ⟨.struct [(3, 0), (3, 1), (23, 2), (24, 3)], 4, 48, [.i .i64 0, .i .i64 0, .f 0, .nil]⟩ := ⟨by rw [Tryz.underlying28]; first | trivial | rfl | exact ⟨rfl, rfl⟩, Tryz.t28, .agg #[.int .i64 0, .int .i64 0, .float .f64 0, .slice none 0 0], by kernel_rfl, rfl, rfl, rfl, rfl, rfl, fun _ => ⟨_, rfl⟩, (fun h => by cases h)⟩
theorem tab29 : tab 29 = ⟨.struct [(3, 0), (3, 1), (23, 2), (24, 3)], 4, 48, [.i .i64 0, .i .i64 0, .f 0, .nil]⟩ := rfl
theorem okT29 : OkTI Tryz.prog 29 ⟨.struct [(3, 0), (3, 1), (23, 2), (24, 3)], 4, 48, [.i .i64 0, .i .i64 0, .f 0, .nil]⟩ := ⟨by rw [Tryz.underlying29]; first | trivial | rfl | exact ⟨rfl, rfl⟩, Tryz.t29, .agg #[.int .i64 0, .int .i64 0, .float .f64 0, .slice none 0 0], by kernel_rfl, rfl, rfl, rfl, rfl, rfl, fun _ => ⟨_, rfl⟩, (fun h => by cases h)⟩
theorem tab30 : tab 30 = ⟨.slice 9, 1, 24, [.nil]⟩ := rfl
theorem okT30 : OkTI Tryz.prog 30 ⟨.slice 9, 1, 24, [.nil]⟩ := ⟨by rw [Tryz.underlying30]; first | trivial | rfl | exact ⟨rfl, rfl⟩, Tryz.t30, .slice none 0 0, by kernel_rfl, rfl, rfl, rfl, rfl, rfl, (fun h => by cases h), fun _ => ⟨rfl, rfl⟩⟩
theorem tab31 : tab 31 = ⟨.struct [(27, 0), (29, 1), (24, 5), (30, 6)], 7, 104, [.i .i64 0, .i .i64 0, .i .i64 0, .f 0, .nil, .nil, .nil]⟩ := rfl
theorem okT31 : OkTI Tryz.prog 31 ⟨.struct [(27, 0), (29, 1), (24, 5), (30, 6)], 7, 104, [.i .i64 0, .i .i64 0, .i .i64 0, .f 0, .nil, .nil, .nil]⟩ := ⟨by rw [Tryz.underlying31]; first | trivial | rfl | exact ⟨rfl, rfl⟩, Tryz.t31, .agg #[.int .i64 0, .int .i64 0, .int .i64 0, .float .f64 0, .slice none 0 0, .slice none 0 0, .slice none 0 0], by kernel_rfl, rfl, rfl, rfl, rfl, rfl, fun _ => ⟨_, rfl⟩, (fun h => by cases h)⟩
theorem tab32 : tab 32 = ⟨.struct [(27, 0), (29, 1), (24, 5), (30, 6)], 7, 104, [.i .i64 0, .i .i64 0, .i .i64 0, .f 0, .nil, .nil, .nil]⟩ := rfl
theorem okT32 : OkTI Tryz.prog 32 ⟨.struct [(27, 0), (29, 1), (24, 5), (30, 6)], 7, 104, [.i .i64 0, .i .i64 0, .i .i64 0, .f 0, .nil, .nil, .nil]⟩ := ⟨by rw [Tryz.underlying32]; first | trivial | rfl | exact ⟨rfl, rfl⟩, Tryz.t32, .agg #[.int .i64 0, .int .i64 0, .int .i64 0, .float .f64 0, .slice none 0 0, .slice none 0 0, .slice none 0 0], by kernel_rfl, rfl, rfl, rfl, rfl, rfl, fun _ => ⟨_, rfl⟩, (fun h => by cases h)⟩
theorem tab34 : tab 34 = ⟨.func, 1, 8, [.o .nilFunc]⟩ := rfl
theorem okT34 : OkF 34 := okF Tryz.t34 (by rw [Tryz.underlying34]; trivial) (by kernel_rfl) rfl rfl rfl
theorem tab35 : tab 35 = ⟨.func, 1, 8, [.o .nilFunc]⟩ := rfl
theorem okT35 : OkF 35 := okF Tryz.t35 (by rw [Tryz.underlying35]; trivial) (by kernel_rfl) rfl rfl rfl
theorem tab36 : tab 36 = ⟨.func, 1, 8, [.o .nilFunc]⟩ := rfl
theorem okT36 : OkF 36 := okF Tryz.t36 (by rw [Tryz.underlying36]; trivial) (by kernel_rfl) rfl rfl rfl
theorem tab37 : tab 37 = ⟨.func, 1, 8, [.o .nilFunc]⟩ := rfl
theorem okT37 : OkF 37 := okF Tryz.t37 (by rw [Tryz.underlying37]; trivial) (by kernel_rfl) rfl rfl rfl
theorem tab38 : tab 38 = ⟨.struct [(9, 0), (29, 1)], 5, 64, [.s [], .i .i64 0, .i .i64 0, .f 0, .nil]⟩ := rfl
theorem okT38 : OkTI Tryz.prog 38 ⟨.struct [(9, 0), (29, 1)], 5, 64, [.s [], .i .i64 0, .i .i64 0, .f 0, .nil]⟩ := ⟨by rw [Tryz.underlying38]; first | trivial | rfl | exact ⟨rfl, rfl⟩, Tryz.t38, .agg #[.string ⟨#[]⟩, .int .i64 0, .int .i64 0, .float .f64 0, .slice none 0 0], by kernel_rfl, rfl, rfl, rfl, rfl, rfl, fun _ => ⟨_, rfl⟩, (fun h => by cases h)⟩
theorem tab39 : tab 39 = ⟨.struct [(9, 0), (29, 1)], 5, 64, [.s [], .i .i64 0, .i .i64 0, .f 0, .nil]⟩ := rfl
theorem okT39 : OkTI Tryz.prog 39 ⟨.struct [(9, 0), (29, 1)], 5, 64, [.s [], .i .i64 0, .i .i64 0, .f 0, .nil]⟩ := ⟨by rw [Tryz.underlying39]; first | trivial | rfl | exact ⟨rfl, rfl⟩, Tryz.t39, .agg #[.string ⟨#[]⟩, .int .i64 0, .int .i64 0, .float .f64 0, .slice none 0 0], by kernel_rfl, rfl, rfl, rfl, rfl, rfl, fun _ => ⟨_, rfl⟩, (fun h => by cases h)⟩
theorem tab40 : tab 40 = ⟨.func, 1, 8, [.o .nilFunc]⟩ := rfl
theorem okT40 : OkF 40 := okF Tryz.t40 (by rw [Tryz.underlying40]; trivial) (by kernel_rfl) rfl rfl rfl
theorem tab41 : tab 41 = ⟨.slice 73, 1, 24, [.nil]⟩ := rfl
theorem okT41 : OkTI Tryz.prog 41 ⟨.slice 73, 1, 24, [.nil]⟩ := ⟨by rw [Tryz.underlying41]; first | trivial | rfl | exact ⟨rfl, rfl⟩, Tryz.t41, .slice none 0 0, by kernel_rfl, rfl, rfl, rfl, rfl, rfl, (fun h => by cases h), fun _ => ⟨rfl, rfl⟩⟩
theorem tab42 : tab 42 = ⟨.slice 46, 1, 24, [.nil]⟩ := rfl
theorem okT42 : OkTI Tryz.prog 42 ⟨.slice 46, 1, 24, [.nil]⟩ := ⟨by rw [Tryz.underlying42]; first | trivial | rfl | exact ⟨rfl, rfl⟩, Tryz.t42, .slice none 0 0, by kernel_rfl, rfl, rfl, rfl, rfl, rfl, (fun h => by cases h), fun _ => ⟨rfl, rfl⟩⟩
theorem tab43 : tab 43 = ⟨.func, 1, 8, [.o .nilFunc]⟩ := rfl
theorem okT43 : OkF 43 := okF Tryz.t43 (by rw [Tryz.underlying43]; trivial) (by kernel_rfl) rfl rfl rfl
theorem tab44 : tab 44 = ⟨.func, 1, 8, [.o .nilFunc]⟩ := rfl
theorem okT44 : OkF 44 := okF Tryz.t44 (by rw [Tryz.underlying44]; trivial) (by kernel_rfl) rfl rfl rfl
theorem tab45 : tab 45 = ⟨.struct [(3, 0), (3, 1), (3, 2), (3, 3), (3, 4), (3, 5), (3, 6), (3, 7), (23, 8), (24, 9), (9, 10)], 11, 112, [.i .i64 0, .i .i64 0, .i .i64 0, .i .i64 0, .i .i64 0, .i .i64 0, .i .i64 0, .i .i64 0, .f 0, .nil, .s []]⟩ := rfl
theorem okT45 : OkTI Tryz.prog 45 ⟨.struct [(3, 0), (3, 1), (3, 2), (3, 3), (3, 4), (3, 5), (3, 6), (3, 7), (23, 8), (24, 9), (9, 10)], 11, 112, [.i .i64 0, .i .i64 0, .i .i64 0, .i .i64 0, .i .i64 0, .i .i64 0, .i .i64 0, .i .i64 0, .f 0, .nil, .s []]⟩ := ⟨by rw [Tryz.underlying45]; first | trivial | rfl | exact ⟨rfl, rfl⟩, Tryz.t45, .agg #[.int .i64 0, .int .i64 0, .int .i64 0, .int .i64 0, .int .i64 0, .int .i64 0, .int .i64 0, .int .i64 0, .float .f64 0, .slice none 0 0, .string ⟨#[]⟩], by kernel_rfl, rfl, rfl, rfl, rfl, rfl, fun _ => ⟨_, rfl⟩, (fun h => by cases h)⟩
theorem tab46 : tab 46 = ⟨.struct [(3, 0), (3, 1), (3, 2), (3, 3), (3, 4), (3, 5), (3, 6), (3, 7), (23, 8), (24, 9), (9, 10)], 11, 112, [.i .i64 0, .i .i64 0, .i .i64 0, .i .i64 0, .i .i64 0, .i .i64 0, .i .i64 0, .i .i64 0, .f 0, .nil, .s []]⟩ := rfl
theorem okT46 : OkTI Tryz.prog 46 ⟨.struct [(3, 0), (3, 1), (3, 2), (3, 3), (3, 4), (3, 5), (3, 6), (3, 7), (23, 8), (24, 9), (9, 10)], 11, 112, [.i .i64 0, .i .i64 0, .i .i64 0, .i .i64 0, .i .i64 0, .i .i64 0, .i .i64 0, .i .i64 0, .f 0, .nil, .s []]⟩ := ⟨by rw [Tryz.underlying46]; first | trivial | rfl | exact ⟨rfl, rfl⟩, Tryz.t46, .agg #[.int .i64 0, .int .i64 0, .int .i64 0, .int .i64 0, .int .i64 0, .int .i64 0, .int .i64 0, .int .i64 0, .float .f64 0, .slice none 0 0, .string ⟨#[]⟩], by kernel_rfl, rfl, rfl, rfl, rfl, rfl, fun _ => ⟨_, rfl⟩, (fun h => by cases h)⟩
theorem tab47 : tab 47 = ⟨.func, 1, 8, [.o .nilFunc]⟩ := rfl
theorem okT47 : OkF 47 := okF Tryz.t47 (by rw [Tryz.underlying47]; trivial) (by kernel_rfl) rfl rfl rfl
theorem tab48 : tab 48 = ⟨.func, 1, 8, [.o .nilFunc]⟩ := rfl
theorem okT48 : OkF 48 := okF Tryz.t48 (by rw [Tryz.underlying48]; trivial) (by kernel_rfl) rfl rfl rfl
theorem tab49 : tab 49 = ⟨.func, 1, 8, [.o .nilFunc]⟩ := rfl
theorem okT49 : OkF 49 := okF Tryz.t49 (by rw [Tryz.underlying49]; trivial) (by kernel_rfl) rfl rfl rfl
theorem tab50 : tab 50 = ⟨.func, 1, 8, [.o .nilFunc]⟩ := rfl
theorem okT50 : OkF 50 := okF Tryz.t50 (by rw [Tryz.underlying50]; trivial) (by kernel_rfl) rfl rfl rfl
theorem tab51 : tab 51 = ⟨.func, 1, 8, [.o .nilFunc]⟩ := rfl
theorem okT51 : OkF 51 := okF Tryz.t51 (by rw [Tryz.underlying51]; trivial) (by kernel_rfl) rfl rfl rfl
theorem tab52 : tab 52 = ⟨.func, 1, 8, [.o .nilFunc]⟩ := rfl
theorem okT52 : OkF 52 := okF Tryz.t52 (by rw [Tryz.underlying52]; trivial) (by kernel_rfl) rfl rfl rfl
theorem tab53 : tab 53 = ⟨.func, 1, 8, [.o .nilFunc]⟩ := rfl
theorem okT53 : OkF 53 := okF Tryz.t53 (by rw [Tryz.underlying53]; trivial) (by kernel_rfl) rfl rfl rfl
theorem tab54 : tab 54 = ⟨.func, 1, 8, [.o .nilFunc]⟩ := rfl
theorem okT54 : OkF 54 := okF Tryz.t54 (by rw [Tryz.underlying54]; trivial) (by kernel_rfl) rfl rfl rfl
theorem tab55 : tab 55 = ⟨.func, 1, 8, [.o .nilFunc]⟩ := rfl
theorem okT55 : OkF 55 := okF Tryz.t55 (by rw [Tryz.underlying55]; trivial) (by kernel_rfl) rfl rfl rfl
theorem tab57 : tab 57 = ⟨.func, 1, 8, [.o .nilFunc]⟩ := rfl
theorem okT57 : OkF 57 := okF Tryz.t57 (by rw [Tryz.underlying57]; trivial) (by kernel_rfl) rfl rfl rfl
theorem tab59 : tab 59 = ⟨.func, 1, 8, [.o .nilFunc]⟩ := rfl
theorem okT59 : OkF 59 := okF Tryz.t59 (by rw [Tryz.underlying59]; trivial) (by kernel_rfl) rfl rfl rfl
theorem tab60 : tab 60 = ⟨.func, 1, 8, [.o .nilFunc]⟩ := rfl
theorem okT60 : OkF 60 := okF Tryz.t60 (by rw [Tryz.underlying60]; trivial) (by kernel_rfl) rfl rfl rfl
theorem tab61 : tab 61 = ⟨.func, 1, 8, [.o .nilFunc]⟩ := rfl
theorem okT61 : OkF 61 := okF Tryz.t61 (by rw [Tryz.underlying61]; trivial) (by kernel_rfl) rfl rfl rfl
theorem tab62 : tab 62 = ⟨.func, 1, 8, [.o .nilFunc]⟩ := rfl
theorem okT62 : OkF 62 := okF Tryz.t62 (by rw [Tryz.underlying62]; trivial) (by kernel_rfl) rfl rfl rfl
theorem tab63 : tab 63 = ⟨.func, 1, 8, [.o .nilFunc]⟩ := rfl
theorem okT63 : OkF 63 := okF Tryz.t63 (by rw [Tryz.underlying63]; trivial) (by kernel_rfl) rfl rfl rfl
theorem tab64 : tab 64 = ⟨.func, 1, 8, [.o .nilFunc]⟩ := rfl
theorem okT64 : OkF 64 := okF Tryz.t64 (by rw [Tryz.underlying64]; trivial) (by kernel_rfl) rfl rfl rfl
theorem tab65 : tab 65 = ⟨.struct [(22, 0), (9, 1), (4, 2), (29, 3)], 7, 96, [.nil, .s [], .b false, .i .i64 0, .i .i64 0, .f 0, .nil]⟩ := rfl
theorem okT65 : OkTI Tryz.prog 65 ⟨.struct [(22, 0), (9, 1), (4, 2), (29, 3)], 7, 96, [.nil, .s [], .b false, .i .i64 0, .i .i64 0, .f 0, .nil]⟩ := ⟨by rw [Tryz.underlying65]; first | trivial | rfl | exact ⟨rfl, rfl⟩, Tryz.t65, .agg #[.slice none 0 0, .string ⟨#[]⟩, .bool false, .int .i64 0, .int .i64 0, .float .f64 0, .slice none 0 0], by kernel_rfl, rfl, rfl, rfl, rfl, rfl, fun _ => ⟨_, rfl⟩, (fun h => by cases h)⟩
theorem tab66 : tab 66 = ⟨.struct [(22, 0), (9, 1), (4, 2), (29, 3)], 7, 96, [.nil, .s [], .b false, .i .i64 0, .i .i64 0, .f 0, .nil]⟩ := rfl
theorem okT66 : OkTI Tryz.prog 66 ⟨.struct [(22, 0), (9, 1), (4, 2), (29, 3)], 7, 96, [.nil, .s [], .b false, .i .i64 0, .i .i64 0, .f 0, .nil]⟩ := ⟨by rw [Tryz.underlying66]; first | trivial | rfl | exact ⟨rfl, rfl⟩, Tryz.t66, .agg #[.slice none 0 0, .string ⟨#[]⟩, .bool false, .int .i64 0, .int .i64 0, .float .f64 0, .slice none 0 0], by kernel_rfl, rfl, rfl, rfl, rfl, rfl, fun _ => ⟨_, rfl⟩, (fun h => by cases h)⟩
theorem tab67 : tab 67 = ⟨.func, 1, 8, [.o .nilFunc]⟩ := rfl
theorem okT67 : OkF 67 := okF Tryz.t67 (by rw [Tryz.underlying67]; trivial) (by kernel_rfl) rfl rfl rfl
theorem tab69 : tab 69 = ⟨.func, 1, 8, [.o .nilFunc]⟩ := rfl
theorem okT69 : OkF 69 := okF Tryz.t69 (by rw [Tryz.underlying69]; trivial) (by kernel_rfl) rfl rfl rfl
theorem tab70 : tab 70 = ⟨.struct [(3, 0), (3, 1), (3, 2), (23, 3), (24, 4)], 5, 56, [.i .i64 0, .i .i64 0, .i .i64 0, .f 0, .nil]⟩ := rfl
theorem okT70 : OkTI Tryz.prog 70 ⟨.struct [(3, 0), (3, 1), (3, 2), (23, 3), (24, 4)], 5, 56, [.i .i64 0, .i .i64 0, .i .i64 0, .f 0, .nil]⟩ := ⟨by rw [Tryz.underlying70]; first | trivial | rfl | exact ⟨rfl, rfl⟩, Tryz.t70, .agg #[.int .i64 0, .int .i64 0, .int .i64 0, .float .f64 0, .slice none 0 0], by kernel_rfl, rfl, rfl, rfl, rfl, rfl, fun _ => ⟨_, rfl⟩, (fun h => by cases h)⟩
theorem tab71 : tab 71 = ⟨.struct [(3, 0), (3, 1), (3, 2), (23, 3), (24, 4)], 5, 56, [.i .i64 0, .i .i64 0, .i .i64 0, .f 0, .nil]⟩ := rfl
theorem okT71 : OkTI Tryz.prog 71 ⟨.struct [(3, 0), (3, 1), (3, 2), (23, 3), (24, 4)], 5, 56, [.i .i64 0, .i .i64 0, .i .i64 0, .f 0, .nil]⟩ := ⟨by rw [Tryz.underlying71]; first | trivial | rfl | exact ⟨rfl, rfl⟩, Tryz.t71, .agg #[.int .i64 0, .int .i64 0, .int .i64 0, .float .f64 0, .slice none 0 0], by kernel_rfl, rfl, rfl, rfl, rfl, rfl, fun _ => ⟨_, rfl⟩, (fun h => by cases h)⟩
theorem tab72 : tab 72 = ⟨.struct [(3, 0), (71, 1)], 6, 64, [.i .i64 0, .i .i64 0, .i .i64 0, .i .i64 0, .f 0, .nil]⟩ := rfl
theorem okT72 : OkTI Tryz.prog 72 ⟨.struct [(3, 0), (71, 1)], 6, 64, [.i .i64 0, .i .i64 0, .i .i64 0, .i .i64 0, .f 0, .nil]⟩ := ⟨by rw [Tryz.underlying72]; first | trivial | rfl | exact ⟨rfl, rfl⟩, Tryz.t72, .agg #[.int .i64 0, .int .i64 0, .int .i64 0, .int .i64 0, .float .f64 0, .slice none 0 0], by kernel_rfl, rfl, rfl, rfl, rfl, rfl, fun _ => ⟨_, rfl⟩, (fun h => by cases h)⟩
theorem tab73 : tab 73 = ⟨.struct [(3, 0), (71, 1)], 6, 64, [.i .i64 0, .i .i64 0, .i .i64 0, .i .i64 0, .f 0, .nil]⟩ := rfl
theorem okT73 : OkTI Tryz.prog 73 ⟨.struct [(3, 0), (71, 1)], 6, 64, [.i .i64 0, .i .i64 0, .i .i64 0, .i .i64 0, .f 0, .nil]⟩ := ⟨by rw [Tryz.underlying73]; first | trivial | rfl | exact ⟨rfl, rfl⟩, Tryz.t73, .agg #[.int .i64 0, .int .i64 0, .int .i64 0, .int .i64 0, .float .f64 0, .slice none 0 0], by kernel_rfl, rfl, rfl, rfl, rfl, rfl, fun _ => ⟨_, rfl⟩, (fun h => by cases h)⟩
theorem tab74 : tab 74 = ⟨.func, 1, 8, [.o .nilFunc]⟩ := rfl
theorem okT74 : OkF 74 := okF Tryz.t74 (by rw [Tryz.underlying74]; trivial) (by kernel_rfl) rfl rfl rfl
theorem tab75 : tab 75 = ⟨.func, 1, 8, [.o .nilFunc]⟩ := rfl
theorem okT75 : OkF 75 := okF Tryz.t75 (by rw [Tryz.underlying75]; trivial) (by kernel_rfl) rfl rfl rfl
theorem tab76 : tab 76 = ⟨.func, 1, 8, [.o .nilFunc]⟩ := rfl
theorem okT76 : OkF 76 := okF Tryz.t76 (by rw [Tryz.underlying76]; trivial) (by kernel_rfl) rfl rfl rfl
theorem tab77 : tab 77 = ⟨.array 24 3, 24, 192, [.i .i64 0, .i .i64 0, .i .i64 0, .i .i64 0, .i .i64 0, .i .i64 0, .i .i64 0, .i .i64 0, .i .i64 0, .i .i64 0, .i .i64 0, .i .i64 0, .i .i64 0, .i .i64 0, .i .i64 0, .i .i64 0, .i .i64 0, .i .i64 0, .i .i64 0, .i .i64 0, .i .i64 0, .i .i64 0, .i .i64 0, .i .i64 0]⟩ := rfl
theorem okT77 : OkTI Tryz.prog 77 ⟨.array 24 3, 24, 192, [.i .i64 0, .i .i64 0, .i .i64 0, .i .i64 0, .i .i64 0, .i .i64 0, .i .i64 0, .i .i64 0, .i .i64 0, .i .i64 0, .i .i64 0, .i .i64 0, .i .i64 0, .i .i64 0, .i .i64 0, .i .i64 0, .i .i64 0, .i .i64 0, .i .i64 0, .i .i64 0, .i .i64 0, .i .i64 0, .i .i64 0, .i .i64 0]⟩ := ⟨by rw [Tryz.underlying77]; first | trivial | rfl | exact ⟨rfl, rfl⟩, Tryz.t77, .agg #[.int .i64 0, .int .i64 0, .int .i64 0, .int .i64 0, .int .i64 0, .int .i64 0, .int .i64 0, .int .i64 0, .int .i64 0, .int .i64 0, .int .i64 0, .int .i64 0, .int .i64 0, .int .i64 0, .int .i64 0, .int .i64 0, .int .i64 0, .int .i64 0, .int .i64 0, .int .i64 0, .int .i64 0, .int .i64 0, .int .i64 0, .int .i64 0], by kernel_rfl, rfl, rfl, rfl, rfl, rfl, fun _ => ⟨_, rfl⟩, (fun h => by cases h)⟩
theorem tab78 : tab 78 = ⟨.func, 1, 8, [.o .nilFunc]⟩ := rfl
theorem okT78 : OkF 78 := okF Tryz.t78 (by rw [Tryz.underlying78]; trivial) (by kernel_rfl) rfl rfl rfl
theorem tab79 : tab 79 = ⟨.func, 1, 8, [.o .nilFunc]⟩ := rfl
theorem okT79 : OkF 79 := okF Tryz.t79 (by rw [Tryz.underlying79]; trivial) (by kernel_rfl) rfl rfl rfl
theorem tab80 : tab 80 = ⟨.func, 1, 8, [.o .nilFunc]⟩ := rfl
theorem okT80 : OkF 80 := okF Tryz.t80 (by rw [Tryz.underlying80]; trivial) (by kernel_rfl) rfl rfl rfl
theorem tab81 : tab 81 = ⟨.func, 1, 8, [.o .nilFunc]⟩ := rfl
theorem okT81 : OkF 81 := okF Tryz.t81 (by rw [Tryz.underlying81]; trivial) (by kernel_rfl) rfl rfl rfl
theorem tab82 : tab 82 = ⟨.func, 1, 8, [.o .nilFunc]⟩ := rfl
theorem okT82 : OkF 82 := okF Tryz.t82 (by rw [Tryz.underlying82]; trivial) (by kernel_rfl) rfl rfl rfl
theorem tab83 : tab 83 = ⟨.func, 1, 8, [.o .nilFunc]⟩ := rfl
theorem okT83 : OkF 83 := okF Tryz.t83 (by rw [Tryz.underlying83]; trivial) (by kernel_rfl) rfl rfl rfl
theorem tab84 : tab 84 = ⟨.func, 1, 8, [.o .nilFunc]⟩ := rfl
theorem okT84 : OkF 84 := okF Tryz.t84 (by rw [Tryz.underlying84]; trivial) (by kernel_rfl) rfl rfl rfl
theorem tab85 : tab 85 = ⟨.int .u64, 1, 8, [.i .u64 0]⟩ := rfl
theorem okT85 : OkTI Tryz.prog 85 ⟨.int .u64, 1, 8, [.i .u64 0]⟩ := ⟨by rw [Tryz.underlying85]; first | trivial | rfl | exact ⟨rfl, rfl⟩, Tryz.t85, .int .u64 0, by kernel_rfl, rfl, rfl, rfl, rfl, rfl, (fun h => by cases h), fun _ => ⟨rfl, rfl⟩⟩
theorem tab86 : tab 86 = ⟨.array 12 23, 12, 96, [.f 0, .f 0, .f 0, .f 0, .f 0, .f 0, .f 0, .f 0, .f 0, .f 0, .f 0, .f 0]⟩ := rfl
theorem okT86 : OkTI Tryz.prog 86 ⟨.array 12 23, 12, 96, [.f 0, .f 0, .f 0, .f 0, .f 0, .f 0, .f 0, .f 0, .f 0, .f 0, .f 0, .f 0]⟩ := ⟨by rw [Tryz.underlying86]; first | trivial | rfl | exact ⟨rfl, rfl⟩, Tryz.t86, .agg #[.float .f64 0, .float .f64 0, .float .f64 0, .float .f64 0, .float .f64 0, .float .f64 0, .float .f64 0, .float .f64 0, .float .f64 0, .float .f64 0, .float .f64 0, .float .f64 0], by kernel_rfl, rfl, rfl, rfl, rfl, rfl, fun _ => ⟨_, rfl⟩, (fun h => by cases h)⟩
theorem tab87 : tab 87 = ⟨.func, 1, 8, [.o .nilFunc]⟩ := rfl
theorem okT87 : OkF 87 := okF Tryz.t87 (by rw [Tryz.underlying87]; trivial) (by kernel_rfl) rfl rfl rfl
theorem tab89 : tab 89 = ⟨.func, 1, 8, [.o .nilFunc]⟩ := rfl
theorem okT89 : OkF 89 := okF Tryz.t89 (by rw [Tryz.underlying89]; trivial) (by kernel_rfl) rfl rfl rfl
theorem tab90 : tab 90 = ⟨.func, 1, 8, [.o .nilFunc]⟩ := rfl
theorem okT90 : OkF 90 := okF Tryz.t90 (by rw [Tryz.underlying90]; trivial) (by kernel_rfl) rfl rfl rfl
theorem tab91 : tab 91 = ⟨.func, 1, 8, [.o .nilFunc]⟩ := rfl
theorem okT91 : OkF 91 := okF Tryz.t91 (by rw [Tryz.underlying91]; trivial) (by kernel_rfl) rfl rfl rfl
theorem tab92 : tab 92 = ⟨.func, 1, 8, [.o .nilFunc]⟩ := rfl
theorem okT92 : OkF 92 := okF Tryz.t92 (by rw [Tryz.underlying92]; trivial) (by kernel_rfl) rfl rfl rfl
theorem tab93 : tab 93 = ⟨.func, 1, 8, [.o .nilFunc]⟩ := rfl
theorem okT93 : OkF 93 := okF Tryz.t93 (by rw [Tryz.underlying93]; trivial) (by kernel_rfl) rfl rfl rfl
theorem tab94 : tab 94 = ⟨.func, 1, 8, [.o .nilFunc]⟩ := rfl
theorem okT94 : OkF 94 := okF Tryz.t94 (by rw [Tryz.underlying94]; trivial) (by kernel_rfl) rfl rfl rfl
theorem tab95 : tab 95 = ⟨.func, 1, 8, [.o .nilFunc]⟩ := rfl
theorem okT95 : OkF 95 := okF Tryz.t95 (by rw [Tryz.underlying95]; trivial) (by kernel_rfl) rfl rfl rfl
theorem tab96 : tab 96 = ⟨.func, 1, 8, [.o .nilFunc]⟩ := rfl
theorem okT96 : OkF 96 := okF Tryz.t96 (by rw [Tryz.underlying96]; trivial) (by kernel_rfl) rfl rfl rfl
theorem tab97 : tab 97 = ⟨.ptr 99, 1, 8, [.o (.pointer none)]⟩ := rfl
theorem okT97 : OkTI Tryz.prog 97 ⟨.ptr 99, 1, 8, [.o (.pointer none)]⟩ := ⟨by rw [Tryz.underlying97]; first | trivial | rfl | exact ⟨rfl, rfl⟩, Tryz.t97, .pointer none, by kernel_rfl, rfl, rfl, rfl, rfl, rfl, (fun h => by cases h), fun _ => ⟨rfl, rfl⟩⟩
theorem tab98 : tab 98 = ⟨.struct [(22, 0), (9, 1), (30, 2), (3, 3)], 4, 72, [.nil, .s [], .nil, .i .i64 0]⟩ := rfl
theorem okT98 : OkTI Tryz.prog 98 ⟨.struct [(22, 0), (9, 1), (30, 2), (3, 3)], 4, 72, [.nil, .s [], .nil, .i .i64 0]⟩ := ⟨by rw [Tryz.underlying98]; first | trivial | rfl | exact ⟨rfl, rfl⟩, Tryz.t98, .agg #[.slice none 0 0, .string ⟨#[]⟩, .slice none 0 0, .int .i64 0], by kernel_rfl, rfl, rfl, rfl, rfl, rfl, fun _ => ⟨_, rfl⟩, (fun h => by cases h)⟩
theorem tab99 : tab 99 = ⟨.struct [(22, 0), (9, 1), (30, 2), (3, 3)], 4, 72, [.nil, .s [], .nil, .i .i64 0]⟩ := rfl
theorem okT99 : OkTI Tryz.prog 99 ⟨.struct [(22, 0), (9, 1), (30, 2), (3, 3)], 4, 72, [.nil, .s [], .nil, .i .i64 0]⟩ := ⟨by rw [Tryz.underlying99]; first | trivial | rfl | exact ⟨rfl, rfl⟩, Tryz.t99, .agg #[.slice none 0 0, .string ⟨#[]⟩, .slice none 0 0, .int .i64 0], by kernel_rfl, rfl, rfl, rfl, rfl, rfl, fun _ => ⟨_, rfl⟩, (fun h => by cases h)⟩
theorem tab101 : tab 101 = ⟨.func, 1, 8, [.o .nilFunc]⟩ := rfl
theorem okT101 : OkF 101 := okF Tryz.t101 (by rw [Tryz.underlying101]; trivial) (by kernel_rfl) rfl rfl rfl
theorem tab102 : tab 102 = ⟨.func, 1, 8, [.o .nilFunc]⟩ := rfl
theorem okT102 : OkF 102 := okF Tryz.t102 (by rw [Tryz.underlying102]; trivial) (by kernel_rfl) rfl rfl rfl
theorem tab103 : tab 103 = ⟨.func, 1, 8, [.o .nilFunc]⟩ := rfl
theorem okT103 : OkF 103 := okF Tryz.t103 (by rw [Tryz.underlying103]; trivial) (by kernel_rfl) rfl rfl rfl
theorem tab104 : tab 104 = ⟨.func, 1, 8, [.o .nilFunc]⟩ := rfl
theorem okT104 : OkF 104 := okF Tryz.t104 (by rw [Tryz.underlying104]; trivial) (by kernel_rfl) rfl rfl rfl
theorem tab105 : tab 105 = ⟨.func, 1, 8, [.o .nilFunc]⟩ := rfl
theorem okT105 : OkF 105 := okF Tryz.t105 (by rw [Tryz.underlying105]; trivial) (by kernel_rfl) rfl rfl rfl
theorem tab106 : tab 106 = ⟨.func, 1, 8, [.o .nilFunc]⟩ := rfl
theorem okT106 : OkF 106 := okF Tryz.t106 (by rw [Tryz.underlying106]; trivial) (by kernel_rfl) rfl rfl rfl
theorem tab107 : tab 107 = ⟨.func, 1, 8, [.o .nilFunc]⟩ := rfl
theorem okT107 : OkF 107 := okF Tryz.t107 (by rw [Tryz.underlying107]; trivial) (by kernel_rfl) rfl rfl rfl
theorem tab108 : tab 108 = ⟨.func, 1, 8, [.o .nilFunc]⟩ := rfl
theorem okT108 : OkF 108 := okF Tryz.t108 (by rw [Tryz.underlying108]; trivial) (by kernel_rfl) rfl rfl rfl
theorem tab109 : tab 109 = ⟨.func, 1, 8, [.o .nilFunc]⟩ := rfl
theorem okT109 : OkF 109 := okF Tryz.t109 (by rw [Tryz.underlying109]; trivial) (by kernel_rfl) rfl rfl rfl
theorem tab110 : tab 110 = ⟨.func, 1, 8, [.o .nilFunc]⟩ := rfl
theorem okT110 : OkF 110 := okF Tryz.t110 (by rw [Tryz.underlying110]; trivial) (by kernel_rfl) rfl rfl rfl
theorem tab111 : tab 111 = ⟨.func, 1, 8, [.o .nilFunc]⟩ := rfl
theorem okT111 : OkF 111 := okF Tryz.t111 (by rw [Tryz.underlying111]; trivial) (by kernel_rfl) rfl rfl rfl
theorem tab112 : tab 112 = ⟨.func, 1, 8, [.o .nilFunc]⟩ := rfl
theorem okT112 : OkF 112 := okF Tryz.t112 (by rw [Tryz.underlying112]; trivial) (by kernel_rfl) rfl rfl rfl
theorem tab113 : tab 113 = ⟨.func, 1, 8, [.o .nilFunc]⟩ := rfl
theorem okT113 : OkF 113 := okF Tryz.t113 (by rw [Tryz.underlying113]; trivial) (by kernel_rfl) rfl rfl rfl
theorem tab114 : tab 114 = ⟨.array 6 9, 6, 96, [.s [], .s [], .s [], .s [], .s [], .s []]⟩ := rfl
theorem okT114 : OkTI Tryz.prog 114 ⟨.array 6 9, 6, 96, [.s [], .s [], .s [], .s [], .s [], .s []]⟩ := ⟨by rw [Tryz.underlying114]; first | trivial | rfl | exact ⟨rfl, rfl⟩, Tryz.t114, .agg #[.string ⟨#[]⟩, .string ⟨#[]⟩, .string ⟨#[]⟩, .string ⟨#[]⟩, .string ⟨#[]⟩, .string ⟨#[]⟩], by kernel_rfl, rfl, rfl, rfl, rfl, rfl, fun _ => ⟨_, rfl⟩, (fun h => by cases h)⟩
theorem tab115 : tab 115 = ⟨.func, 1, 8, [.o .nilFunc]⟩ := rfl
theorem okT115 : OkF 115 := okF Tryz.t115 (by rw [Tryz.underlying115]; trivial) (by kernel_rfl) rfl rfl rfl
theorem tab116 : tab 116 = ⟨.func, 1, 8, [.o .nilFunc]⟩ := rfl
theorem okT116 : OkF 116 := okF Tryz.t116 (by rw [Tryz.underlying116]; trivial) (by kernel_rfl) rfl rfl rfl
theorem tab118 : tab 118 = ⟨.func, 1, 8, [.o .nilFunc]⟩ := rfl
theorem okT118 : OkF 118 := okF Tryz.t118 (by rw [Tryz.underlying118]; trivial) (by kernel_rfl) rfl rfl rfl
theorem tab119 : tab 119 = ⟨.func, 1, 8, [.o .nilFunc]⟩ := rfl
theorem okT119 : OkF 119 := okF Tryz.t119 (by rw [Tryz.underlying119]; trivial) (by kernel_rfl) rfl rfl rfl
theorem tab120 : tab 120 = ⟨.func, 1, 8, [.o .nilFunc]⟩ := rfl
theorem okT120 : OkF 120 := okF Tryz.t120 (by rw [Tryz.underlying120]; trivial) (by kernel_rfl) rfl rfl rfl
theorem tab121 : tab 121 = ⟨.func, 1, 8, [.o .nilFunc]⟩ := rfl
theorem okT121 : OkF 121 := okF Tryz.t121 (by rw [Tryz.underlying121]; trivial) (by kernel_rfl) rfl rfl rfl
theorem tab122 : tab 122 = ⟨.func, 1, 8, [.o .nilFunc]⟩ := rfl
theorem okT122 : OkF 122 := okF Tryz.t122 (by rw [Tryz.underlying122]; trivial) (by kernel_rfl) rfl rfl rfl
theorem tab123 : tab 123 = ⟨.func, 1, 8, [.o .nilFunc]⟩ := rfl
theorem okT123 : OkF 123 := okF Tryz.t123 (by rw [Tryz.underlying123]; trivial) (by kernel_rfl) rfl rfl rfl
theorem tab124 : tab 124 = ⟨.func, 1, 8, [.o .nilFunc]⟩ := rfl
theorem okT124 : OkF 124 := okF Tryz.t124 (by rw [Tryz.underlying124]; trivial) (by kernel_rfl) rfl rfl rfl
theorem tab125 : tab 125 = ⟨.func, 1, 8, [.o .nilFunc]⟩ := rfl
theorem okT125 : OkF 125 := okF Tryz.t125 (by rw [Tryz.underlying125]; trivial) (by kernel_rfl) rfl rfl rfl
theorem tab126 : tab 126 = ⟨.func, 1, 8, [.o .nilFunc]⟩ := rfl
theorem okT126 : OkF 126 := okF Tryz.t126 (by rw [Tryz.underlying126]; trivial) (by kernel_rfl) rfl rfl rfl
theorem tab127 : tab 127 = ⟨.func, 1, 8, [.o .nilFunc]⟩ := rfl
theorem okT127 : OkF 127 := okF Tryz.t127 (by rw [Tryz.underlying127]; trivial) (by kernel_rfl) rfl rfl rfl
theorem tab128 : tab 128 = ⟨.func, 1, 8, [.o .nilFunc]⟩ := rfl
theorem okT128 : OkF 128 := okF Tryz.t128 (by rw [Tryz.underlying128]; trivial) (by kernel_rfl) rfl rfl rfl
theorem tab129 : tab 129 = ⟨.func, 1, 8, [.o .nilFunc]⟩ := rfl
theorem okT129 : OkF 129 := okF Tryz.t129 (by rw [Tryz.underlying129]; trivial) (by kernel_rfl) rfl rfl rfl
theorem tab130 : tab 130 = ⟨.func, 1, 8, [.o .nilFunc]⟩ := rfl
theorem okT130 : OkF 130 := okF Tryz.t130 (by rw [Tryz.underlying130]; trivial) (by kernel_rfl) rfl rfl rfl
theorem tab131 : tab 131 = ⟨.func, 1, 8, [.o .nilFunc]⟩ := rfl
theorem okT131 : OkF 131 := okF Tryz.t131 (by rw [Tryz.underlying131]; trivial) (by kernel_rfl) rfl rfl rfl
theorem tab132 : tab 132 = ⟨.func, 1, 8, [.o .nilFunc]⟩ := rfl
theorem okT132 : OkF 132 := okF Tryz.t132 (by rw [Tryz.underlying132]; trivial) (by kernel_rfl) rfl rfl rfl
theorem tab133 : tab 133 = ⟨.func, 1, 8, [.o .nilFunc]⟩ := rfl
theorem okT133 : OkF 133 := okF Tryz.t133 (by rw [Tryz.underlying133]; trivial) (by kernel_rfl) rfl rfl rfl
theorem tab134 : tab 134 = ⟨.func, 1, 8, [.o .nilFunc]⟩ := rfl
theorem okT134 : OkF 134 := okF Tryz.t134 (by rw [Tryz.underlying134]; trivial) (by kernel_rfl) rfl rfl rfl
theorem tab135 : tab 135 = ⟨.func, 1, 8, [.o .nilFunc]⟩ := rfl
theorem okT135 : OkF 135 := okF Tryz.t135 (by rw [Tryz.underlying135]; trivial) (by kernel_rfl) rfl rfl rfl
theorem tab136 : tab 136 = ⟨.func, 1, 8, [.o .nilFunc]⟩ := rfl
theorem okT136 : OkF 136 := okF Tryz.t136 (by rw [Tryz.underlying136]; trivial) (by kernel_rfl) rfl rfl rfl
theorem tab137 : tab 137 = ⟨.func, 1, 8, [.o .nilFunc]⟩ := rfl
theorem okT137 : OkF 137 := okF Tryz.t137 (by rw [Tryz.underlying137]; trivial) (by kernel_rfl) rfl rfl rfl
theorem tab138 : tab 138 = ⟨.func, 1, 8, [.o .nilFunc]⟩ := rfl
theorem okT138 : OkF 138 := okF Tryz.t138 (by rw [Tryz.underlying138]; trivial) (by kernel_rfl) rfl rfl rfl
theorem tab139 : tab 139 = ⟨.func, 1, 8, [.o .nilFunc]⟩ := rfl
theorem okT139 : OkF 139 := okF Tryz.t139 (by rw [Tryz.underlying139]; trivial) (by kernel_rfl) rfl rfl rfl
theorem tab140 : tab 140 = ⟨.int .u64, 1, 8, [.i .u64 0]⟩ := rfl
theorem okT140 : OkTI Tryz.prog 140 ⟨.int .u64, 1, 8, [.i .u64 0]⟩ := ⟨by rw [Tryz.underlying140]; first | trivial | rfl | exact ⟨rfl, rfl⟩, Tryz.t140, .int .u64 0, by kernel_rfl, rfl, rfl, rfl, rfl, rfl, (fun h => by cases h), fun _ => ⟨rfl, rfl⟩⟩
theorem tab141 : tab 141 = ⟨.func, 1, 8, [.o .nilFunc]⟩ := rfl
theorem okT141 : OkF 141 := okF Tryz.t141 (by rw [Tryz.underlying141]; trivial) (by kernel_rfl) rfl rfl rfl
theorem tab142 : tab 142 = ⟨.func, 1, 8, [.o .nilFunc]⟩ := rfl
theorem okT142 : OkF 142 := okF Tryz.t142 (by rw [Tryz.underlying142]; trivial) (by kernel_rfl) rfl rfl rfl
theorem tab143 : tab 143 = ⟨.func, 1, 8, [.o .nilFunc]⟩ := rfl
theorem okT143 : OkF 143 := okF Tryz.t143 (by rw [Tryz.underlying143]; trivial) (by kernel_rfl) rfl rfl rfl
theorem tab144 : tab 144 = ⟨.slice 24, 1, 24, [.nil]⟩ := rfl
theorem okT144 : OkTI Tryz.prog 144 ⟨.slice 24, 1, 24, [.nil]⟩ := ⟨by rw [Tryz.underlying144]; first | trivial | rfl | exact ⟨rfl, rfl⟩, Tryz.t144, .slice none 0 0, by kernel_rfl, rfl, rfl, rfl, rfl, rfl, (fun h => by cases h), fun _ => ⟨rfl, rfl⟩⟩
theorem tab145 : tab 145 = ⟨.func, 1, 8, [.o .nilFunc]⟩ := rfl
theorem okT145 : OkF 145 := okF Tryz.t145 (by rw [Tryz.underlying145]; trivial) (by kernel_rfl) rfl rfl rfl
theorem tab146 : tab 146 = ⟨.func, 1, 8, [.o .nilFunc]⟩ := rfl
theorem okT146 : OkF 146 := okF Tryz.t146 (by rw [Tryz.underlying146]; trivial) (by kernel_rfl) rfl rfl rfl
theorem tab147 : tab 147 = ⟨.ptr 149, 1, 8, [.o (.pointer none)]⟩ := rfl
theorem okT147 : OkTI Tryz.prog 147 ⟨.ptr 149, 1, 8, [.o (.pointer none)]⟩ := ⟨by rw [Tryz.underlying147]; first | trivial | rfl | exact ⟨rfl, rfl⟩, Tryz.t147, .pointer none, by kernel_rfl, rfl, rfl, rfl, rfl, rfl, (fun h => by cases h), fun _ => ⟨rfl, rfl⟩⟩
theorem tab148 : tab 148 = ⟨.struct [(24, 0)], 1, 24, [.nil]⟩ := rfl
theorem okT148 : OkTI Tryz.prog 148 ⟨.struct [(24, 0)], 1, 24, [.nil]⟩ := ⟨by rw [Tryz.underlying148]; first | trivial | rfl | exact ⟨rfl, rfl⟩, Tryz.t148, .agg #[.slice none 0 0], by kernel_rfl, rfl, rfl, rfl, rfl, rfl, fun _ => ⟨_, rfl⟩, (fun h => by cases h)⟩
theorem tab149 : tab 149 = ⟨.struct [(24, 0)], 1, 24, [.nil]⟩ := rfl
theorem okT149 : OkTI Tryz.prog 149 ⟨.struct [(24, 0)], 1, 24, [.nil]⟩ := ⟨by rw [Tryz.underlying149]; first | trivial | rfl | exact ⟨rfl, rfl⟩, Tryz.t149, .agg #[.slice none 0 0], by kernel_rfl, rfl, rfl, rfl, rfl, rfl, fun _ => ⟨_, rfl⟩, (fun h => by cases h)⟩
theorem tab150 : tab 150 = ⟨.func, 1, 8, [.o .nilFunc]⟩ := rfl
theorem okT150 : OkF 150 := okF Tryz.t150 (by rw [Tryz.underlying150]; trivial) (by kernel_rfl) rfl rfl rfl
theorem tab151 : tab 151 = ⟨.func, 1, 8, [.o .nilFunc]⟩ := rfl
theorem okT151 : OkF 151 := okF Tryz.t151 (by rw [Tryz.underlying151]; trivial) (by kernel_rfl) rfl rfl rfl
theorem tab153 : tab 153 = ⟨.func, 1, 8, [.o .nilFunc]⟩ := rfl
theorem okT153 : OkF 153 := okF Tryz.t153 (by rw [Tryz.underlying153]; trivial) (by kernel_rfl) rfl rfl rfl
theorem tab154 : tab 154 = ⟨.func, 1, 8, [.o .nilFunc]⟩ := rfl
theorem okT154 : OkF 154 := okF Tryz.t154 (by rw [Tryz.underlying154]; trivial) (by kernel_rfl) rfl rfl rfl
theorem tab155 : tab 155 = ⟨.slice 30, 1, 24, [.nil]⟩ := rfl
theorem okT155 : OkTI Tryz.prog 155 ⟨.slice 30, 1, 24, [.nil]⟩ := ⟨by rw [Tryz.underlying155]; first | trivial | rfl | exact ⟨rfl, rfl⟩, Tryz.t155, .slice none 0 0, by kernel_rfl, rfl, rfl, rfl, rfl, rfl, (fun h => by cases h), fun _ => ⟨rfl, rfl⟩⟩
theorem tab156 : tab 156 = ⟨.func, 1, 8, [.o .nilFunc]⟩ := rfl
theorem okT156 : OkF 156 := okF Tryz.t156 (by rw [Tryz.underlying156]; trivial) (by kernel_rfl) rfl rfl rfl
theorem tab157 : tab 157 = ⟨.func, 1, 8, [.o .nilFunc]⟩ := rfl
theorem okT157 : OkF 157 := okF Tryz.t157 (by rw [Tryz.underlying157]; trivial) (by kernel_rfl) rfl rfl rfl
theorem tab158 : tab 158 = ⟨.int .i64, 1, 8, [.i .i64 0]⟩ := rfl
theorem okT158 : OkTI Tryz.prog 158 ⟨.int .i64, 1, 8, [.i .i64 0]⟩ := ⟨by rw [Tryz.underlying158]; first | trivial | rfl | exact ⟨rfl, rfl⟩, Tryz.t158, .int .i64 0, by kernel_rfl, rfl, rfl, rfl, rfl, rfl, (fun h => by cases h), fun _ => ⟨rfl, rfl⟩⟩
theorem tab160 : tab 160 = ⟨.func, 1, 8, [.o .nilFunc]⟩ := rfl
theorem okT160 : OkF 160 := okF Tryz.t160 (by rw [Tryz.underlying160]; trivial) (by kernel_rfl) rfl rfl rfl
theorem tab161 : tab 161 = ⟨.func, 1, 8, [.o .nilFunc]⟩ := rfl
theorem okT161 : OkF 161 := okF Tryz.t161 (by rw [Tryz.underlying161]; trivial) (by kernel_rfl) rfl rfl rfl
theorem tab162 : tab 162 = ⟨.func, 1, 8, [.o .nilFunc]⟩ := rfl
theorem okT162 : OkF 162 := okF Tryz.t162 (by rw [Tryz.underlying162]; trivial) (by kernel_rfl) rfl rfl rfl
theorem tab163 : tab 163 = ⟨.func, 1, 8, [.o .nilFunc]⟩ := rfl
theorem okT163 : OkF 163 := okF Tryz.t163 (by rw [Tryz.underlying163]; trivial) (by kernel_rfl) rfl rfl rfl
theorem tab164 : tab 164 = ⟨.func, 1, 8, [.o .nilFunc]⟩ := rfl
theorem okT164 : OkF 164 := okF Tryz.t164 (by rw [Tryz.underlying164]; trivial) (by kernel_rfl) rfl rfl rfl
theorem tab165 : tab 165 = ⟨.int .u32, 1, 4, [.i .u32 0]⟩ := rfl
theorem okT165 : OkTI Tryz.prog 165 ⟨.int .u32, 1, 4, [.i .u32 0]⟩ := ⟨by rw [Tryz.underlying165]; first | trivial | rfl | exact ⟨rfl, rfl⟩, Tryz.t165, .int .u32 0, by kernel_rfl, rfl, rfl, rfl, rfl, rfl, (fun h => by cases h), fun _ => ⟨rfl, rfl⟩⟩
theorem tab166 : tab 166 = ⟨.func, 1, 8, [.o .nilFunc]⟩ := rfl
theorem okT166 : OkF 166 := okF Tryz.t166 (by rw [Tryz.underlying166]; trivial) (by kernel_rfl) rfl rfl rfl
theorem tab167 : tab 167 = ⟨.func, 1, 8, [.o .nilFunc]⟩ := rfl
theorem okT167 : OkF 167 := okF Tryz.t167 (by rw [Tryz.underlying167]; trivial) (by kernel_rfl) rfl rfl rfl
theorem tab168 : tab 168 = ⟨.func, 1, 8, [.o .nilFunc]⟩ := rfl
theorem okT168 : OkF 168 := okF Tryz.t168 (by rw [Tryz.underlying168]; trivial) (by kernel_rfl) rfl rfl rfl
theorem tab169 : tab 169 = ⟨.func, 1, 8, [.o .nilFunc]⟩ := rfl
theorem okT169 : OkF 169 := okF Tryz.t169 (by rw [Tryz.underlying169]; trivial) (by kernel_rfl) rfl rfl rfl
theorem tab170 : tab 170 = ⟨.func, 1, 8, [.o .nilFunc]⟩ := rfl
theorem okT170 : OkF 170 := okF Tryz.t170 (by rw [Tryz.underlying170]; trivial) (by kernel_rfl) rfl rfl rfl
theorem tab171 : tab 171 = ⟨.func, 1, 8, [.o .nilFunc]⟩ := rfl
theorem okT171 : OkF 171 := okF Tryz.t171 (by rw [Tryz.underlying171]; trivial) (by kernel_rfl) rfl rfl rfl
theorem tab173 : tab 173 = ⟨.func, 1, 8, [.o .nilFunc]⟩ := rfl
theorem okT173 : OkF 173 := okF Tryz.t173 (by rw [Tryz.underlying173]; trivial) (by kernel_rfl) rfl rfl rfl
theorem tab174 : tab 174 = ⟨.slice 3, 1, 24, [.nil]⟩ := rfl
theorem okT174 : OkTI Tryz.prog 174 ⟨.slice 3, 1, 24, [.nil]⟩ := ⟨by rw [Tryz.underlying174]; first | trivial | rfl | exact ⟨rfl, rfl⟩, Tryz.t174, .slice none 0 0, by kernel_rfl, rfl, rfl, rfl, rfl, rfl, (fun h => by cases h), fun _ => ⟨rfl, rfl⟩⟩
theorem tab175 : tab 175 = ⟨.int .u64, 1, 8, [.i .u64 0]⟩ := rfl
theorem okT175 : OkTI Tryz.prog 175 ⟨.int .u64, 1, 8, [.i .u64 0]⟩ := ⟨by rw [Tryz.underlying175]; first | trivial | rfl | exact ⟨rfl, rfl⟩, Tryz.t175, .int .u64 0, by kernel_rfl, rfl, rfl, rfl, rfl, rfl, (fun h => by cases h), fun _ => ⟨rfl, rfl⟩⟩
theorem tab176 : tab 176 = ⟨.func, 1, 8, [.o .nilFunc]⟩ := rfl
theorem okT176 : OkF 176 := okF Tryz.t176 (by rw [Tryz.underlying176]; trivial) (by kernel_rfl) rfl rfl rfl
theorem tab177 : tab 177 = ⟨.func, 1, 8, [.o .nilFunc]⟩ := rfl
theorem okT177 : OkF 177 := okF Tryz.t177 (by rw [Tryz.underlying177]; trivial) (by kernel_rfl) rfl rfl rfl
theorem tab178 : tab 178 = ⟨.func, 1, 8, [.o .nilFunc]⟩ := rfl
theorem okT178 : OkF 178 := okF Tryz.t178 (by rw [Tryz.underlying178]; trivial) (by kernel_rfl) rfl rfl rfl
theorem tab179 : tab 179 = ⟨.ptr 3, 1, 8, [.o (.pointer none)]⟩ := rfl
theorem okT179 : OkTI Tryz.prog 179 ⟨.ptr 3, 1, 8, [.o (.pointer none)]⟩ := ⟨by rw [Tryz.underlying179]; first | trivial | rfl | exact ⟨rfl, rfl⟩, Tryz.t179, .pointer none, by kernel_rfl, rfl, rfl, rfl, rfl, rfl, (fun h => by cases h), fun _ => ⟨rfl, rfl⟩⟩
theorem tab180 : tab 180 = ⟨.func, 1, 8, [.o .nilFunc]⟩ := rfl
theorem okT180 : OkF 180 := okF Tryz.t180 (by rw [Tryz.underlying180]; trivial) (by kernel_rfl) rfl rfl rfl
theorem tab181 : tab 181 = ⟨.func, 1, 8, [.o .nilFunc]⟩ := rfl
theorem okT181 : OkF 181 := okF Tryz.t181 (by rw [Tryz.underlying181]; trivial) (by kernel_rfl) rfl rfl rfl
theorem tab182 : tab 182 = ⟨.func, 1, 8, [.o .nilFunc]⟩ := rfl
theorem okT182 : OkF 182 := okF Tryz.t182 (by rw [Tryz.underlying182]; trivial) (by kernel_rfl) rfl rfl rfl
theorem tab183 : tab 183 = ⟨.func, 1, 8, [.o .nilFunc]⟩ := rfl
theorem okT183 : OkF 183 := okF Tryz.t183 (by rw [Tryz.underlying183]; trivial) (by kernel_rfl) rfl rfl rfl
theorem tab184 : tab 184 = ⟨.func, 1, 8, [.o .nilFunc]⟩ := rfl
theorem okT184 : OkF 184 := okF Tryz.t184 (by rw [Tryz.underlying184]; trivial) (by kernel_rfl) rfl rfl rfl
theorem tab185 : tab 185 = ⟨.func, 1, 8, [.o .nilFunc]⟩ := rfl
theorem okT185 : OkF 185 := okF Tryz.t185 (by rw [Tryz.underlying185]; trivial) (by kernel_rfl) rfl rfl rfl
theorem tab186 : tab 186 = ⟨.func, 1, 8, [.o .nilFunc]⟩ := rfl
theorem okT186 : OkF 186 := okF Tryz.t186 (by rw [Tryz.underlying186]; trivial) (by kernel_rfl) rfl rfl rfl
theorem tab187 : tab 187 = ⟨.func, 1, 8, [.o .nilFunc]⟩ := rfl
theorem okT187 : OkF 187 := okF Tryz.t187 (by rw [Tryz.underlying187]; trivial) (by kernel_rfl) rfl rfl rfl
theorem tab188 : tab 188 = ⟨.ptr 175, 1, 8, [.o (.pointer none)]⟩ := rfl
theorem okT188 : OkTI Tryz.prog 188 ⟨.ptr 175, 1, 8, [.o (.pointer none)]⟩ := ⟨by rw [Tryz.underlying188]; first | trivial | rfl | exact ⟨rfl, rfl⟩, Tryz.t188, .pointer none, by kernel_rfl, rfl, rfl, rfl, rfl, rfl, (fun h => by cases h), fun _ => ⟨rfl, rfl⟩⟩
theorem tab189 : tab 189 = ⟨.func, 1, 8, [.o .nilFunc]⟩ := rfl
theorem okT189 : OkF 189 := okF Tryz.t189 (by rw [Tryz.underlying189]; trivial) (by kernel_rfl) rfl rfl rfl
theorem tab190 : tab 190 = ⟨.func, 1, 8, [.o .nilFunc]⟩ := rfl
theorem okT190 : OkF 190 := okF Tryz.t190 (by rw [Tryz.underlying190]; trivial) (by kernel_rfl) rfl rfl rfl
theorem tab191 : tab 191 = ⟨.func, 1, 8, [.o .nilFunc]⟩ := rfl
theorem okT191 : OkF 191 := okF Tryz.t191 (by rw [Tryz.underlying191]; trivial) (by kernel_rfl) rfl rfl rfl
theorem tab192 : tab 192 = ⟨.array 256 5, 256, 256, [.i .u8 0, .i .u8 0, .i .u8 0, .i .u8 0, .i .u8 0, .i .u8 0, .i .u8 0, .i .u8 0, .i .u8 0, .i .u8 0, .i .u8 0, .i .u8 0, .i .u8 0, .i .u8 0, .i .u8 0, .i .u8 0, .i .u8 0, .i .u8 0, .i .u8 0, .i .u8 0, .i .u8 0, .i .u8 0, .i .u8 0, .i .u8 0, .i .u8 0, .i .u8 0, .i .u8 0, .i .u8 0, .i .u8 0, .i .u8 0, .i .u8 0, .i .u8 0, .i .u8 0, .i .u8 0, .i .u8 0, .i .u8 0, .i .u8 0, .i .u8 0, .i .u8 0, .i .u8 0, .i .u8 0, .i .u8 0, .i .u8 0, .i .u8 0, .i .u8 0, .i .u8 0, .i .u8 0, .i .u8 0, .i .u8 0, .i .u8 0, .i .u8 0, .i .u8 0, .i .u8 0, .i .u8 0, .i .u8 0, .i .u8 0, .i .u8 0, .i .u8 0, .i .u8 0, .i .u8 0, .i .u8 0, .i .u8 0, .i .u8 0, .i .u8 0, .i .u8 0, .i .u8 0, .i .u8 0, .i .u8 0, .i .u8 0, .i .u8 0, .i .u8 0, .i .u8 0, .i .u8 0, .i .u8 0, .i .u8 0, .i .u8 0, .i .u8 0, .i .u8 0, .i .u8 0, .i .u8 0, .i .u8 0, .i .u8 0, .i .u8 0, .i .u8 0, .i .u8 0, .i .u8 0, .i .u8 0, .i .u8 0, .i .u8 0, .i .u8 0, .i .u8 0, .i .u8 0, .i .u8 0, .i .u8 0, .i .u8 0, .i .u8 0, .i .u8 0, .i .u8 0, .i .u8 0, .i .u8 0, .i .u8 0, .i .u8 0, .i .u8 0, .i .u8 0, .i .u8 0, .i .u8 0, .i .u8 0, .i .u8 0, .i .u8 0, .i .u8 0, .i .u8 0, .i .u8 0, .i .u8 0, .i .u8 0, .i .u8 0, .i .u8 0, .i .u8 0, .i .u8 0, .i .u8 0, .i .u8 0, .i .u8 0, .i .u8 0, .i .u8 0, .i .u8 0, .i .u8 0, .i .u8 0, .i .u8 0, .i .u8 0, .i .u8 0, .i .u8 0, .i .u8 0, .i .u8 0, .i .u8 0, .i .u8 0, .i .u8 0, .i .u8 0, .i .u8 0, .i .u8 0, .i .u8 0, .i .u8 0, .i .u8 0, .i .u8 0, .i .u8 0, .i .u8 0, .i .u8 0, .i .u8 0, .i .u8 0, .i .u8 0, .i .u8 0, .i .u8 0, .i .u8 0, .i .u8 0, .i .u8 0, .i .u8 0, .i .u8 0, .i .u8 0, .i .u8 0, .i .u8 0, .i .u8 0, .i .u8 0, .i .u8 0, .i .u8 0, .i .u8 0, .i .u8 0, .i .u8 0, .i .u8 0, .i .u8 0, .i .u8 0, .i .u8 0, .i .u8 0, .i .u8 0, .i .u8 0, .i .u8 0, .i .u8 0, .i .u8 0, .i .u8 0, .i .u8 0, .i .u8 0, .i .u8 0, .i .u8 0, .i .u8 0, .i .u8 0, .i .u8 0, .i .u8 0, .i .u8 0, .i .u8 0, .i .u8 0, .i .u8 0, .i .u8 0, .i .u8 0, .i .u8 0, .i .u8 0, .i .u8 0, .i .u8 0, .i .u8 0, .i .u8 0, .i .u8 0, .i .u8 0, .i .u8 0, .i .u8 0, .i .u8 0, .i .u8 0, .i .u8 0, .i .u8 0, .i .u8 0, .i .u8 0, .i .u8 0, .i .u8 0, .i .u8 0, .i .u8 0, .i .u8 0, .i .u8 0, .i .u8 0, .i .u8 0, .i .u8 0, .i .u8 0, .i .u8 0, .i .u8 0, .i .u8 0, .i .u8 0, .i .u8 0, .i .u8 0, .i .u8 0, .i .u8 0, .i .u8 0, .i .u8 0, .i .u8 0, .i .u8 0, .i .u8 0, .i .u8 0, .i .u8 0, .i .u8 0, .i .u8 0, .i .u8 0, .i .u8 0, .i .u8 0, .i .u8 0, .i .u8 0, .i .u8 0, .i .u8 0, .i .u8 0, .i .u8 0, .i .u8 0, .i .u8 0, .i .u8 0, .i .u8 0, .i .u8 0, .i .u8 0, .i .u8 0, .i .u8 0, .i .u8 0, .i .u8 0, .i .u8 0, .i .u8 0, .i .u8 0, .i .u8 0]⟩ := rfl
theorem okT192 : OkTI Tryz.prog 192 ⟨.array 256 5, 256, 256, [.i .u8 0, .i .u8 0, .i .u8 0, .i .u8 0, .i .u8 0, .i .u8 0, .i .u8 0, .i .u8 0, .i .u8 0, .i .u8 0, .i .u8 0, .i .u8 0, .i .u8 0, .i .u8 0, .i .u8 0, .i .u8 0, .i .u8 0, .i .u8 0, .i .u8 0, .i .u8 0, .i .u8 0, .i .u8 0, .i .u8 0, .i .u8 0, .i .u8 0, .i .u8 0, .i .u8 0, .i .u8 0, .i .u8 0, .i .u8 0, .i .u8 0, .i .u8 0, .i .u8 0, .i .u8 0, .i .u8 0, .i .u8 0, .i .u8 0, .i .u8 0, .i .u8 0, .i .u8 0, .i .u8 0, .i .u8 0, .i .u8 0, .i .u8 0, .i .u8 0, .i .u8 0, .i .u8 0, .i .u8 0, .i .u8 0, .i .u8 0, .i .u8 0, .i .u8 0, .i .u8 0, .i .u8 0, .i .u8 0, .i .u8 0, .i .u8 0, .i .u8 0, .i .u8 0, .i .u8 0, .i .u8 0, .i .u8 0, .i .u8 0, .i .u8 0, .i .u8 0, .i .u8 0, .i .u8 0, .i .u8 0, .i .u8 0, .i .u8 0, .i .u8 0, .i .u8 0, .i .u8 0, .i .u8 0, .i .u8 0, .i .u8 0, .i .u8 0, .i .u8 0, .i .u8 0, .i .u8 0, .i .u8 0, .i .u8 0, .i .u8 0, .i .u8 0, .i .u8 0, .i .u8 0, .i .u8 0, .i .u8 0, .i .u8 0, .i .u8 0, .i .u8 0, .i .u8 0, .i .u8 0, .i .u8 0, .i .u8 0, .i .u8 0, .i .u8 0, .i .u8 0, .i .u8 0, .i .u8 0, .i .u8 0, .i .u8 0, .i .u8 0, .i .u8 0, .i .u8 0, .i .u8 0, .i .u8 0, .i .u8 0, .i .u8 0, .i .u8 0, .i .u8 0, .i .u8 0, .i .u8 0, .i .u8 0, .i .u8 0, .i .u8 0, .i .u8 0, .i .u8 0, .i .u8 0, .i .u8 0, .i .u8 0, .i .u8 0, .i .u8 0, .i .u8 0, .i .u8 0, .i .u8 0, .i .u8 0, .i .u8 0, .i .u8 0, .i .u8 0, .i .u8 0, .i .u8 0, .i .u8 0, .i .u8 0, .i .u8 0, .i .u8 0, .i .u8 0, .i .u8 0, .i .u8 0, .i .u8 0, .i .u8 0, .i .u8 0, .i .u8 0, .i .u8 0, .i .u8 0, .i .u8 0, .i .u8 0, .i .u8 0, .i .u8 0, .i .u8 0, .i .u8 0, .i .u8 0, .i .u8 0, .i .u8 0, .i .u8 0, .i .u8 0, .i .u8 0, .i .u8 0, .i .u8 0, .i .u8 0, .i .u8 0, .i .u8 0, .i .u8 0, .i .u8 0, .i .u8 0, .i .u8 0, .i .u8 0, .i .u8 0, .i .u8 0, .i .u8 0, .i .u8 0, .i .u8 0, .i .u8 0, .i .u8 0, .i .u8 0, .i .u8 0, .i .u8 0, .i .u8 0, .i .u8 0, .i .u8 0, .i .u8 0, .i .u8 0, .i .u8 0, .i .u8 0, .i .u8 0, .i .u8 0, .i .u8 0, .i .u8 0, .i .u8 0, .i .u8 0, .i .u8 0, .i .u8 0, .i .u8 0, .i .u8 0, .i .u8 0, .i .u8 0, .i .u8 0, .i .u8 0, .i .u8 0, .i .u8 0, .i .u8 0, .i .u8 0, .i .u8 0, .i .u8 0, .i .u8 0, .i .u8 0, .i .u8 0, .i .u8 0, .i .u8 0, .i .u8 0, .i .u8 0, .i .u8 0, .i .u8 0, .i .u8 0, .i .u8 0, .i .u8 0, .i .u8 0, .i .u8 0, .i .u8 0, .i .u8 0, .i .u8 0, .i .u8 0, .i .u8 0, .i .u8 0, .i .u8 0, .i .u8 0, .i .u8 0, .i .u8 0, .i .u8 0, .i .u8 0, .i .u8 0, .i .u8 0, .i .u8 0, .i .u8 0, .i .u8 0, .i .u8 0, .i .u8 0, .i .u8 0, .i .u8 0, .i .u8 0, .i .u8 0, .i .u8 0, .i .u8 0, .i .u8 0, .i .u8 0, .i .u8 0, .i .u8 0, .i .u8 0, .i .u8 0, .i .u8 0, .i .u8 0, .i .u8 0, .i .u8 0, .i .u8 0, .i .u8 0, .i .u8 0]⟩ := ⟨by rw [Tryz.underlying192]; first | trivial | rfl | exact ⟨rfl, rfl⟩, Tryz.t192, .agg #[.int .u8 0, .int .u8 0, .int .u8 0, .int .u8 0, .int .u8 0, .int .u8 0, .int .u8 0, .int .u8 0, .int .u8 0, .int .u8 0, .int .u8 0, .int .u8 0, .int .u8 0, .int .u8 0, .int .u8 0, .int .u8 0, .int .u8 0, .int .u8 0, .int .u8 0, .int .u8 0, .int .u8 0, .int .u8 0, .int .u8 0, .int .u8 0, .int .u8 0, .int .u8 0, .int .u8 0, .int .u8 0, .int .u8 0, .int .u8 0, .int .u8 0, .int .u8 0, .int .u8 0, .int .u8 0, .int .u8 0, .int .u8 0, .int .u8 0, .int .u8 0, .int .u8 0, .int .u8 0, .int .u8 0, .int .u8 0, .int .u8 0, .int .u8 0, .int .u8 0, .int .u8 0, .int .u8 0, .int .u8 0, .int .u8 0, .int .u8 0, .int .u8 0, .int .u8 0, .int .u8 0, .int .u8 0, .int .u8 0, .int .u8 0, .int .u8 0, .int .u8 0, .int .u8 0, .int .u8 0, .int .u8 0, .int .u8 0, .int .u8 0, .int .u8 0, .int .u8 0, .int .u8 0, .int .u8 0, .int .u8 0, .int .u8 0, .int .u8 0, .int .u8 0, .int .u8 0, .int .u8 0, .int .u8 0, .int .u8 0, .int .u8 0, .int .u8 0, .int .u8 0, .int .u8 0, .int .u8 0, .int .u8 0, .int .u8 0, .int .u8 0, .int .u8 0, .int .u8 0, .int .u8 0, .int .u8 0, .int .u8 0, .int .u8 0, .int .u8 0, .int .u8 0, .int .u8 0, .int .u8 0, .int .u8 0, .int .u8 0, .int .u8 0, .int .u8 0, .int .u8 0, .int .u8 0, .int .u8 0, .int .u8 0, .int .u8 0, .int .u8 0, .int .u8 0, .int .u8 0, .int .u8 0, .int .u8 0, .int .u8 0, .int .u8 0, .int .u8 0, .int .u8 0, .int .u8 0, .int .u8 0, .int .u8 0, .int .u8 0, .int .u8 0, .int .u8 0, .int .u8 0, .int .u8 0, .int .u8 0, .int .u8 0, .int .u8 0, .int .u8 0, .int .u8 0, .int .u8 0, .int .u8 0, .int .u8 0, .int .u8 0, .int .u8 0, .int .u8 0, .int .u8 0, .int .u8 0, .int .u8 0, .int .u8 0, .int .u8 0, .int .u8 0, .int .u8 0, .int .u8 0, .int .u8 0, .int .u8 0, .int .u8 0, .int .u8 0, .int .u8 0, .int .u8 0, .int .u8 0, .int .u8 0, .int .u8 0, .int .u8 0, .int .u8 0, .int .u8 0, .int .u8 0, .int .u8 0, .int .u8 0, .int .u8 0, .int .u8 0, .int .u8 0, .int .u8 0, .int .u8 0, .int .u8 0, .int .u8 0, .int .u8 0, .int .u8 0, .int .u8 0, .int .u8 0, .int .u8 0, .int .u8 0, .int .u8 0, .int .u8 0, .int .u8 0, .int .u8 0, .int .u8 0, .int .u8 0, .int .u8 0, .int .u8 0, .int .u8 0, .int .u8 0, .int .u8 0, .int .u8 0, .int .u8 0, .int .u8 0, .int .u8 0, .int .u8 0, .int .u8 0, .int .u8 0, .int .u8 0, .int .u8 0, .int .u8 0, .int .u8 0, .int .u8 0, .int .u8 0, .int .u8 0, .int .u8 0, .int .u8 0, .int .u8 0, .int .u8 0, .int .u8 0, .int .u8 0, .int .u8 0, .int .u8 0, .int .u8 0, .int .u8 0, .int .u8 0, .int .u8 0, .int .u8 0, .int .u8 0, .int .u8 0, .int .u8 0, .int .u8 0, .int .u8 0, .int .u8 0, .int .u8 0, .int .u8 0, .int .u8 0, .int .u8 0, .int .u8 0, .int .u8 0, .int .u8 0, .int .u8 0, .int .u8 0, .int .u8 0, .int .u8 0, .int .u8 0, .int .u8 0, .int .u8 0, .int .u8 0, .int .u8 0, .int .u8 0, .int .u8 0, .int .u8 0, .int .u8 0, .int .u8 0, .int .u8 0, .int .u8 0, .int .u8 0, .int .u8 0, .int .u8 0, .int .u8 0, .int .u8 0, .int .u8 0, .int .u8 0, .int .u8 0, .int .u8 0, .int .u8 0, .int .u8 0, .int .u8 0, .int .u8 0, .int .u8 0, .int .u8 0, .int .u8 0, .int .u8 0, .int .u8 0, .int .u8 0, .int .u8 0, .int .u8 0, .int .u8 0, .int .u8 0], by kernel_rfl, rfl, rfl, rfl, rfl, rfl, fun _ => ⟨_, rfl⟩, (fun h => by cases h)⟩
theorem tab193 : tab 193 = ⟨.struct [(5, 0), (5, 1)], 2, 2, [.i .u8 0, .i .u8 0]⟩ := rfl
theorem okT193 : OkTI Tryz.prog 193 ⟨.struct [(5, 0), (5, 1)], 2, 2, [.i .u8 0, .i .u8 0]⟩ := ⟨by rw [Tryz.underlying193]; first | trivial | rfl | exact ⟨rfl, rfl⟩, Tryz.t193, .agg #[.int .u8 0, .int .u8 0], by kernel_rfl, rfl, rfl, rfl, rfl, rfl, fun _ => ⟨_, rfl⟩, (fun h => by cases h)⟩
theorem tab194 : tab 194 = ⟨.struct [(5, 0), (5, 1)], 2, 2, [.i .u8 0, .i .u8 0]⟩ := rfl
theorem okT194 : OkTI Tryz.prog 194 ⟨.struct [(5, 0), (5, 1)], 2, 2, [.i .u8 0, .i .u8 0]⟩ := ⟨by rw [Tryz.underlying194]; first | trivial | rfl | exact ⟨rfl, rfl⟩, Tryz.t194, .agg #[.int .u8 0, .int .u8 0], by kernel_rfl, rfl, rfl, rfl, rfl, rfl, fun _ => ⟨_, rfl⟩, (fun h => by cases h)⟩
theorem tab195 : tab 195 = ⟨.array 16 194, 32, 32, [.i .u8 0, .i .u8 0, .i .u8 0, .i .u8 0, .i .u8 0, .i .u8 0, .i .u8 0, .i .u8 0, .i .u8 0, .i .u8 0, .i .u8 0, .i .u8 0, .i .u8 0, .i .u8 0, .i .u8 0, .i .u8 0, .i .u8 0, .i .u8 0, .i .u8 0, .i .u8 0, .i .u8 0, .i .u8 0, .i .u8 0, .i .u8 0, .i .u8 0, .i .u8 0, .i .u8 0, .i .u8 0, .i .u8 0, .i .u8 0, .i .u8 0, .i .u8 0]⟩ := rfl
theorem okT195 : OkTI Tryz.prog 195 ⟨.array 16 194, 32, 32, [.i .u8 0, .i .u8 0, .i .u8 0, .i .u8 0, .i .u8 0, .i .u8 0, .i .u8 0, .i .u8 0, .i .u8 0, .i .u8 0, .i .u8 0, .i .u8 0, .i .u8 0, .i .u8 0, .i .u8 0, .i .u8 0, .i .u8 0, .i .u8 0, .i .u8 0, .i .u8 0, .i .u8 0, .i .u8 0, .i .u8 0, .i .u8 0, .i .u8 0, .i .u8 0, .i .u8 0, .i .u8 0, .i .u8 0, .i .u8 0, .i .u8 0, .i .u8 0]⟩ := ⟨by rw [Tryz.underlying195]; first | trivial | rfl | exact ⟨rfl, rfl⟩, Tryz.t195, .agg #[.int .u8 0, .int .u8 0, .int .u8 0, .int .u8 0, .int .u8 0, .int .u8 0, .int .u8 0, .int .u8 0, .int .u8 0, .int .u8 0, .int .u8 0, .int .u8 0, .int .u8 0, .int .u8 0, .int .u8 0, .int .u8 0, .int .u8 0, .int .u8 0, .int .u8 0, .int .u8 0, .int .u8 0, .int .u8 0, .int .u8 0, .int .u8 0, .int .u8 0, .int .u8 0, .int .u8 0, .int .u8 0, .int .u8 0, .int .u8 0, .int .u8 0, .int .u8 0], by kernel_rfl, rfl, rfl, rfl, rfl, rfl, fun _ => ⟨_, rfl⟩, (fun h => by cases h)⟩
theorem tab197 : tab 197 = ⟨.func, 1, 8, [.o .nilFunc]⟩ := rfl
theorem okT197 : OkF 197 := okF Tryz.t197 (by rw [Tryz.underlying197]; trivial) (by kernel_rfl) rfl rfl rfl
theorem tab198 : tab 198 = ⟨.func, 1, 8, [.o .nilFunc]⟩ := rfl
theorem okT198 : OkF 198 := okF Tryz.t198 (by rw [Tryz.underlying198]; trivial) (by kernel_rfl) rfl rfl rfl
theorem tab199 : tab 199 = ⟨.func, 1, 8, [.o .nilFunc]⟩ := rfl
theorem okT199 : OkF 199 := okF Tryz.t199 (by rw [Tryz.underlying199]; trivial) (by kernel_rfl) rfl rfl rfl
theorem tab200 : tab 200 = ⟨.func, 1, 8, [.o .nilFunc]⟩ := rfl
theorem okT200 : OkF 200 := okF Tryz.t200 (by rw [Tryz.underlying200]; trivial) (by kernel_rfl) rfl rfl rfl
theorem tab201 : tab 201 = ⟨.struct [(17, 0), (17, 1), (17, 2), (9, 3)], 4, 40, [.o (.pointer none), .o (.pointer none), .o (.pointer none), .s []]⟩ := rfl
theorem okT201 : OkTI Tryz.prog 201 ⟨.struct [(17, 0), (17, 1), (17, 2), (9, 3)], 4, 40, [.o (.pointer none), .o (.pointer none), .o (.pointer none), .s []]⟩ := ⟨by rw [Tryz.underlying201]; first | trivial | rfl | exact ⟨rfl, rfl⟩, Tryz.t201, .agg #[.pointer none, .pointer none, .pointer none, .string ⟨#[]⟩], by kernel_rfl, rfl, rfl, rfl, rfl, rfl, fun _ => ⟨_, rfl⟩, (fun h => by cases h)⟩
theorem tab202 : tab 202 = ⟨.struct [(17, 0), (17, 1), (17, 2), (9, 3)], 4, 40, [.o (.pointer none), .o (.pointer none), .o (.pointer none), .s []]⟩ := rfl
theorem okT202 : OkTI Tryz.prog 202 ⟨.struct [(17, 0), (17, 1), (17, 2), (9, 3)], 4, 40, [.o (.pointer none), .o (.pointer none), .o (.pointer none), .s []]⟩ := ⟨by rw [Tryz.underlying202]; first | trivial | rfl | exact ⟨rfl, rfl⟩, Tryz.t202, .agg #[.pointer none, .pointer none, .pointer none, .string ⟨#[]⟩], by kernel_rfl, rfl, rfl, rfl, rfl, rfl, fun _ => ⟨_, rfl⟩, (fun h => by cases h)⟩
theorem tab206 : tab 206 = ⟨.func, 1, 8, [.o .nilFunc]⟩ := rfl
theorem okT206 : OkF 206 := okF Tryz.t206 (by rw [Tryz.underlying206]; trivial) (by kernel_rfl) rfl rfl rfl
theorem tab207 : tab 207 = ⟨.int .u8, 1, 1, [.i .u8 0]⟩ := rfl
theorem okT207 : OkTI Tryz.prog 207 ⟨.int .u8, 1, 1, [.i .u8 0]⟩ := ⟨by rw [Tryz.underlying207]; first | trivial | rfl | exact ⟨rfl, rfl⟩, Tryz.t207, .int .u8 0, by kernel_rfl, rfl, rfl, rfl, rfl, rfl, (fun h => by cases h), fun _ => ⟨rfl, rfl⟩⟩
theorem tab208 : tab 208 = ⟨.int .u8, 1, 1, [.i .u8 0]⟩ := rfl
theorem okT208 : OkTI Tryz.prog 208 ⟨.int .u8, 1, 1, [.i .u8 0]⟩ := ⟨by rw [Tryz.underlying208]; first | trivial | rfl | exact ⟨rfl, rfl⟩, Tryz.t208, .int .u8 0, by kernel_rfl, rfl, rfl, rfl, rfl, rfl, (fun h => by cases h), fun _ => ⟨rfl, rfl⟩⟩
theorem tab209 : tab 209 = ⟨.func, 1, 8, [.o .nilFunc]⟩ := rfl
theorem okT209 : OkF 209 := okF Tryz.t209 (by rw [Tryz.underlying209]; trivial) (by kernel_rfl) rfl rfl rfl
theorem tab210 : tab 210 = ⟨.ptr 5, 1, 8, [.o (.pointer none)]⟩ := rfl
theorem okT210 : OkTI Tryz.prog 210 ⟨.ptr 5, 1, 8, [.o (.pointer none)]⟩ := ⟨by rw [Tryz.underlying210]; first | trivial | rfl | exact ⟨rfl, rfl⟩, Tryz.t210, .pointer none, by kernel_rfl, rfl, rfl, rfl, rfl, rfl, (fun h => by cases h), fun _ => ⟨rfl, rfl⟩⟩
theorem tab211 : tab 211 = ⟨.int .i32, 1, 4, [.i .i32 0]⟩ := rfl
theorem okT211 : OkTI Tryz.prog 211 ⟨.int .i32, 1, 4, [.i .i32 0]⟩ := ⟨by rw [Tryz.underlying211]; first | trivial | rfl | exact ⟨rfl, rfl⟩, Tryz.t211, .int .i32 0, by kernel_rfl, rfl, rfl, rfl, rfl, rfl, (fun h => by cases h), fun _ => ⟨rfl, rfl⟩⟩
theorem tab212 : tab 212 = ⟨.int .i32, 1, 4, [.i .i32 0]⟩ := rfl
theorem okT212 : OkTI Tryz.prog 212 ⟨.int .i32, 1, 4, [.i .i32 0]⟩ := ⟨by rw [Tryz.underlying212]; first | trivial | rfl | exact ⟨rfl, rfl⟩, Tryz.t212, .int .i32 0, by kernel_rfl, rfl, rfl, rfl, rfl, rfl, (fun h => by cases h), fun _ => ⟨rfl, rfl⟩⟩
theorem tab213 : tab 213 = ⟨.struct [(12, 0), (12, 1), (165, 2), (207, 3), (5, 4), (5, 5), (208, 6), (209, 7), (210, 8), (211, 9), (212, 10)], 11, 48, [.i .u64 0, .i .u64 0, .i .u32 0, .i .u8 0, .i .u8 0, .i .u8 0, .i .u8 0, .o .nilFunc, .o (.pointer none), .i .i32 0, .i .i32 0]⟩ := rfl
theorem okT213 : OkTI Tryz.prog 213 ⟨.struct [(12, 0), (12, 1), (165, 2), (207, 3), (5, 4), (5, 5), (208, 6), (209, 7), (210, 8), (211, 9), (212, 10)], 11, 48, [.i .u64 0, .i .u64 0, .i .u32 0, .i .u8 0, .i .u8 0, .i .u8 0, .i .u8 0, .o .nilFunc, .o (.pointer none), .i .i32 0, .i .i32 0]⟩ := ⟨by rw [Tryz.underlying213]; first | trivial | rfl | exact ⟨rfl, rfl⟩, Tryz.t213, .agg #[.int .u64 0, .int .u64 0, .int .u32 0, .int .u8 0, .int .u8 0, .int .u8 0, .int .u8 0, .nilFunc, .pointer none, .int .i32 0, .int .i32 0], by kernel_rfl, rfl, rfl, rfl, rfl, rfl, fun _ => ⟨_, rfl⟩, (fun h => by cases h)⟩
theorem tab214 : tab 214 = ⟨.struct [(12, 0), (12, 1), (165, 2), (207, 3), (5, 4), (5, 5), (208, 6), (209, 7), (210, 8), (211, 9), (212, 10)], 11, 48, [.i .u64 0, .i .u64 0, .i .u32 0, .i .u8 0, .i .u8 0, .i .u8 0, .i .u8 0, .o .nilFunc, .o (.pointer none), .i .i32 0, .i .i32 0]⟩ := rfl
theorem okT214 : OkTI Tryz.prog 214 ⟨.struct [(12, 0), (12, 1), (165, 2), (207, 3), (5, 4), (5, 5), (208, 6), (209, 7), (210, 8), (211, 9), (212, 10)], 11, 48, [.i .u64 0, .i .u64 0, .i .u32 0, .i .u8 0, .i .u8 0, .i .u8 0, .i .u8 0, .o .nilFunc, .o (.pointer none), .i .i32 0, .i .i32 0]⟩ := ⟨by rw [Tryz.underlying214]; first | trivial | rfl | exact ⟨rfl, rfl⟩, Tryz.t214, .agg #[.int .u64 0, .int .u64 0, .int .u32 0, .int .u8 0, .int .u8 0, .int .u8 0, .int .u8 0, .nilFunc, .pointer none, .int .i32 0, .int .i32 0], by kernel_rfl, rfl, rfl, rfl, rfl, rfl, fun _ => ⟨_, rfl⟩, (fun h => by cases h)⟩
def AllOK (P : Program) : Nat → List TI → Prop
  | _, [] => True
  | i, t :: l => OkTI P i t ∧ AllOK P (i + 1) l
theorem AllOK.at_ {P : Program} : ∀ {l : List TI} {i j : Nat}, AllOK P i l → OkTI P (i + j) (l.getD j ⟨.no, 0, 0, []⟩)
  | [], _, _, _ => rfl
  | t :: l, i, 0, h => h.1
  | t :: l, i, j + 1, h => by
    have := AllOK.at_ (j := j) h.2
    rw [show i + (j + 1) = i + 1 + j by omega]
    exact this
set_option maxRecDepth 100000 in
theorem allOK : AllOK Tryz.prog 0 tabL := ⟨rfl, okT1, okT2, okT3, okT4, okT5, okT6, okT7, okT8, okT9, okT10, okT11, okT12, okT13, okT14, okT15, okT16, okT17, okT18, okT19, okT20, okT21, okT22, okT23, okT24, okT25, okT26, okT27, okT28, okT29, okT30, okT31, okT32, rfl, okT34, okT35, okT36, okT37, okT38, okT39, okT40, okT41, okT42, okT43, okT44, okT45, okT46, okT47, okT48, okT49, okT50, okT51, okT52, okT53, okT54, okT55, rfl, okT57, rfl, okT59, okT60, okT61, okT62, okT63, okT64, okT65, okT66, okT67, rfl, okT69, okT70, okT71, okT72, okT73, okT74, okT75, okT76, okT77, okT78, okT79, okT80, okT81, okT82, okT83, okT84, okT85, okT86, okT87, rfl, okT89, okT90, okT91, okT92, okT93, okT94, okT95, okT96, okT97, okT98, okT99, rfl, okT101, okT102, okT103, okT104, okT105, okT106, okT107, okT108, okT109, okT110, okT111, okT112, okT113, okT114, okT115, okT116, rfl, okT118, okT119, okT120, okT121, okT122, okT123, okT124, okT125, okT126, okT127, okT128, okT129, okT130, okT131, okT132, okT133, okT134, okT135, okT136, okT137, okT138, okT139, okT140, okT141, okT142, okT143, okT144, okT145, okT146, okT147, okT148, okT149, okT150, okT151, rfl, okT153, okT154, okT155, okT156, okT157, okT158, rfl, okT160, okT161, okT162, okT163, okT164, okT165, okT166, okT167, okT168, okT169, okT170, okT171, rfl, okT173, okT174, okT175, okT176, okT177, okT178, okT179, okT180, okT181, okT182, okT183, okT184, okT185, okT186, okT187, okT188, okT189, okT190, okT191, okT192, okT193, okT194, okT195, rfl, okT197, okT198, okT199, okT200, okT201, okT202, rfl, rfl, rfl, okT206, okT207, okT208, okT209, okT210, okT211, okT212, okT213, okT214, rfl, trivial⟩
theorem tabOK : TabOK Tryz.prog tab := fun t => by
  have := AllOK.at_ (j := t) allOK
  rwa [Nat.zero_add] at this
theorem hmix : Tryz.prog.follows .mixedOrders = true := by kernel_rfl
attribute [go_sem] tab1 tab2 tab3 tab4 tab5 tab6 tab7 tab8 tab9 tab10 tab11 tab12 tab13 tab14 tab15 tab16 tab17 tab18 tab19 tab20 tab21 tab22 tab23 tab24 tab25 tab26 tab27 tab28 tab29 tab30 tab31 tab32 tab34 tab35 tab36 tab37 tab38 tab39 tab40 tab41 tab42 tab43 tab44 tab45 tab46 tab47 tab48 tab49 tab50 tab51 tab52 tab53 tab54 tab55 tab57 tab59 tab60 tab61 tab62 tab63 tab64 tab65 tab66 tab67 tab69 tab70 tab71 tab72 tab73 tab74 tab75 tab76 tab77 tab78 tab79 tab80 tab81 tab82 tab83 tab84 tab85 tab86 tab87 tab89 tab90 tab91 tab92 tab93 tab94 tab95 tab96 tab97 tab98 tab99 tab101 tab102 tab103 tab104 tab105 tab106 tab107 tab108 tab109 tab110 tab111 tab112 tab113 tab114 tab115 tab116 tab118 tab119 tab120 tab121 tab122 tab123 tab124 tab125 tab126 tab127 tab128 tab129 tab130 tab131 tab132 tab133 tab134 tab135 tab136 tab137 tab138 tab139 tab140 tab141 tab142 tab143 tab144 tab145 tab146 tab147 tab148 tab149 tab150 tab151 tab153 tab154 tab155 tab156 tab157 tab158 tab160 tab161 tab162 tab163 tab164 tab165 tab166 tab167 tab168 tab169 tab170 tab171 tab173 tab174 tab175 tab176 tab177 tab178 tab179 tab180 tab181 tab182 tab183 tab184 tab185 tab186 tab187 tab188 tab189 tab190 tab191 tab192 tab193 tab194 tab195 tab197 tab198 tab199 tab200 tab201 tab202 tab206 tab207 tab208 tab209 tab210 tab211 tab212 tab213 tab214

end Go.Proofs.YtnbgaphhhjnjlaaGreatDoor
