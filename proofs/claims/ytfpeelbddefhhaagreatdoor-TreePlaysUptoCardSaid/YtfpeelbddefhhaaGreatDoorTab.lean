/-
  The table of types of this seat's program, as the engine takes it; that it is the program's. Written by a program (wip/tools/gen_tab.py). No condition.
-/
import Derived.Test.YtfpeelbddefhhaaGreatDoorVA
import Derived.Test.YtfpeelbddefhhaaGreatDoorProg
set_option linter.unusedSimpArgs false
set_option linter.unusedVariables false
namespace Go.Proofs.YtfpeelbddefhhaaGreatDoor
open Go Go.Dm
set_option maxRecDepth 100000

def tabL : List TI := [
  ⟨.no, 0, 0, []⟩,
  ⟨.func, 1, 8, [.o .nilFunc]⟩,
  ⟨.int .i64, 1, 8, [.i .i64 0]⟩,
  ⟨.int .i64, 1, 8, [.i .i64 0]⟩,
  ⟨.bool, 1, 1, [.b false]⟩,
  ⟨.int .u8, 1, 1, [.i .u8 0]⟩,
  ⟨.int .u8, 1, 1, [.i .u8 0]⟩,
  ⟨.struct [(2, 0), (3, 1), (4, 2), (6, 3)], 4, 24, [.i .i64 0, .i .i64 0, .b false, .i .u8 0]⟩,
  ⟨.struct [(2, 0), (3, 1), (4, 2), (6, 3)], 4, 24, [.i .i64 0, .i .i64 0, .b false, .i .u8 0]⟩,
  ⟨.str, 1, 16, [.s []]⟩,
  ⟨.str, 1, 16, [.s []]⟩,
  ⟨.str, 1, 16, [.s []]⟩,
  ⟨.int .u64, 1, 8, [.i .u64 0]⟩,
  ⟨.struct [(9, 0), (12, 1)], 2, 24, [.s [], .i .u64 0]⟩,
  ⟨.struct [(9, 0), (12, 1)], 2, 24, [.s [], .i .u64 0]⟩,
  ⟨.ptr 243, 1, 8, [.o (.pointer none)]⟩,
  ⟨.ptr 246, 1, 8, [.o (.pointer none)]⟩,
  ⟨.ptr 254, 1, 8, [.o (.pointer none)]⟩,
  ⟨.struct [(17, 0)], 1, 8, [.o (.pointer none)]⟩,
  ⟨.struct [(17, 0)], 1, 8, [.o (.pointer none)]⟩,
  ⟨.iface, 1, 16, [.o .nilIface]⟩,
  ⟨.int .i32, 1, 4, [.i .i32 0]⟩,
  ⟨.slice 60, 1, 24, [.nil]⟩,
  ⟨.slice 61, 1, 24, [.nil]⟩,
  ⟨.slice 29, 1, 24, [.nil]⟩,
  ⟨.slice 30, 1, 24, [.nil]⟩,
  ⟨.no, 0, 0, []⟩,
  ⟨.func, 1, 8, [.o .nilFunc]⟩,
  ⟨.func, 1, 8, [.o .nilFunc]⟩,
  ⟨.slice 94, 1, 24, [.nil]⟩,
  ⟨.slice 43, 1, 24, [.nil]⟩,
  ⟨.no, 0, 0, []⟩,
  ⟨.func, 1, 8, [.o .nilFunc]⟩,
  ⟨.func, 1, 8, [.o .nilFunc]⟩,
  ⟨.func, 1, 8, [.o .nilFunc]⟩,
  ⟨.func, 1, 8, [.o .nilFunc]⟩,
  ⟨.float, 1, 8, [.f 0]⟩,
  ⟨.slice 5, 1, 24, [.nil]⟩,
  ⟨.struct [(3, 0), (3, 1), (36, 2), (37, 3)], 4, 48, [.i .i64 0, .i .i64 0, .f 0, .nil]⟩,
  ⟨.struct [(3, 0), (3, 1), (36, 2), (37, 3)], 4, 48, [.i .i64 0, .i .i64 0, .f 0, .nil]⟩,
  ⟨.no, 0, 0, []⟩,
  ⟨.func, 1, 8, [.o .nilFunc]⟩,
  ⟨.struct [(9, 0), (39, 1)], 5, 64, [.s [], .i .i64 0, .i .i64 0, .f 0, .nil]⟩,
  ⟨.struct [(9, 0), (39, 1)], 5, 64, [.s [], .i .i64 0, .i .i64 0, .f 0, .nil]⟩,
  ⟨.func, 1, 8, [.o .nilFunc]⟩,
  ⟨.func, 1, 8, [.o .nilFunc]⟩,
  ⟨.func, 1, 8, [.o .nilFunc]⟩,
  ⟨.func, 1, 8, [.o .nilFunc]⟩,
  ⟨.slice 3, 1, 24, [.nil]⟩,
  ⟨.func, 1, 8, [.o .nilFunc]⟩,
  ⟨.no, 0, 0, []⟩,
  ⟨.func, 1, 8, [.o .nilFunc]⟩,
  ⟨.func, 1, 8, [.o .nilFunc]⟩,
  ⟨.slice 9, 1, 24, [.nil]⟩,
  ⟨.no, 0, 0, []⟩,
  ⟨.func, 1, 8, [.o .nilFunc]⟩,
  ⟨.func, 1, 8, [.o .nilFunc]⟩,
  ⟨.func, 1, 8, [.o .nilFunc]⟩,
  ⟨.func, 1, 8, [.o .nilFunc]⟩,
  ⟨.func, 1, 8, [.o .nilFunc]⟩,
  ⟨.slice 106, 1, 24, [.nil]⟩,
  ⟨.slice 83, 1, 24, [.nil]⟩,
  ⟨.func, 1, 8, [.o .nilFunc]⟩,
  ⟨.func, 1, 8, [.o .nilFunc]⟩,
  ⟨.func, 1, 8, [.o .nilFunc]⟩,
  ⟨.func, 1, 8, [.o .nilFunc]⟩,
  ⟨.func, 1, 8, [.o .nilFunc]⟩,
  ⟨.func, 1, 8, [.o .nilFunc]⟩,
  ⟨.func, 1, 8, [.o .nilFunc]⟩,
  ⟨.int .i64, 1, 8, [.i .i64 0]⟩,
  ⟨.no, 0, 0, []⟩,
  ⟨.func, 1, 8, [.o .nilFunc]⟩,
  ⟨.no, 0, 0, []⟩,
  ⟨.func, 1, 8, [.o .nilFunc]⟩,
  ⟨.func, 1, 8, [.o .nilFunc]⟩,
  ⟨.func, 1, 8, [.o .nilFunc]⟩,
  ⟨.struct [(3, 0), (3, 1), (3, 2), (36, 3), (37, 4)], 5, 56, [.i .i64 0, .i .i64 0, .i .i64 0, .f 0, .nil]⟩,
  ⟨.struct [(3, 0), (3, 1), (3, 2), (36, 3), (37, 4)], 5, 56, [.i .i64 0, .i .i64 0, .i .i64 0, .f 0, .nil]⟩,
  ⟨.func, 1, 8, [.o .nilFunc]⟩,
  ⟨.func, 1, 8, [.o .nilFunc]⟩,
  ⟨.func, 1, 8, [.o .nilFunc]⟩,
  ⟨.func, 1, 8, [.o .nilFunc]⟩,
  ⟨.struct [(3, 0), (3, 1), (3, 2), (77, 3)], 8, 80, [.i .i64 0, .i .i64 0, .i .i64 0, .i .i64 0, .i .i64 0, .i .i64 0, .f 0, .nil]⟩,
  ⟨.struct [(3, 0), (3, 1), (3, 2), (77, 3)], 8, 80, [.i .i64 0, .i .i64 0, .i .i64 0, .i .i64 0, .i .i64 0, .i .i64 0, .f 0, .nil]⟩,
  ⟨.func, 1, 8, [.o .nilFunc]⟩,
  ⟨.no, 0, 0, []⟩,
  ⟨.func, 1, 8, [.o .nilFunc]⟩,
  ⟨.func, 1, 8, [.o .nilFunc]⟩,
  ⟨.func, 1, 8, [.o .nilFunc]⟩,
  ⟨.func, 1, 8, [.o .nilFunc]⟩,
  ⟨.func, 1, 8, [.o .nilFunc]⟩,
  ⟨.func, 1, 8, [.o .nilFunc]⟩,
  ⟨.func, 1, 8, [.o .nilFunc]⟩,
  ⟨.struct [(9, 0), (3, 1), (4, 2), (39, 3)], 7, 80, [.s [], .i .i64 0, .b false, .i .i64 0, .i .i64 0, .f 0, .nil]⟩,
  ⟨.struct [(9, 0), (3, 1), (4, 2), (39, 3)], 7, 80, [.s [], .i .i64 0, .b false, .i .i64 0, .i .i64 0, .f 0, .nil]⟩,
  ⟨.func, 1, 8, [.o .nilFunc]⟩,
  ⟨.no, 0, 0, []⟩,
  ⟨.func, 1, 8, [.o .nilFunc]⟩,
  ⟨.func, 1, 8, [.o .nilFunc]⟩,
  ⟨.func, 1, 8, [.o .nilFunc]⟩,
  ⟨.func, 1, 8, [.o .nilFunc]⟩,
  ⟨.func, 1, 8, [.o .nilFunc]⟩,
  ⟨.func, 1, 8, [.o .nilFunc]⟩,
  ⟨.func, 1, 8, [.o .nilFunc]⟩,
  ⟨.func, 1, 8, [.o .nilFunc]⟩,
  ⟨.struct [(3, 0), (77, 1)], 6, 64, [.i .i64 0, .i .i64 0, .i .i64 0, .i .i64 0, .f 0, .nil]⟩,
  ⟨.struct [(3, 0), (77, 1)], 6, 64, [.i .i64 0, .i .i64 0, .i .i64 0, .i .i64 0, .f 0, .nil]⟩,
  ⟨.func, 1, 8, [.o .nilFunc]⟩,
  ⟨.func, 1, 8, [.o .nilFunc]⟩,
  ⟨.struct [(30, 0), (30, 1)], 2, 48, [.nil, .nil]⟩,
  ⟨.struct [(30, 0), (30, 1)], 2, 48, [.nil, .nil]⟩,
  ⟨.func, 1, 8, [.o .nilFunc]⟩,
  ⟨.func, 1, 8, [.o .nilFunc]⟩,
  ⟨.func, 1, 8, [.o .nilFunc]⟩,
  ⟨.func, 1, 8, [.o .nilFunc]⟩,
  ⟨.func, 1, 8, [.o .nilFunc]⟩,
  ⟨.func, 1, 8, [.o .nilFunc]⟩,
  ⟨.func, 1, 8, [.o .nilFunc]⟩,
  ⟨.func, 1, 8, [.o .nilFunc]⟩,
  ⟨.func, 1, 8, [.o .nilFunc]⟩,
  ⟨.func, 1, 8, [.o .nilFunc]⟩,
  ⟨.func, 1, 8, [.o .nilFunc]⟩,
  ⟨.ptr 174, 1, 8, [.o (.pointer none)]⟩,
  ⟨.func, 1, 8, [.o .nilFunc]⟩,
  ⟨.func, 1, 8, [.o .nilFunc]⟩,
  ⟨.func, 1, 8, [.o .nilFunc]⟩,
  ⟨.func, 1, 8, [.o .nilFunc]⟩,
  ⟨.func, 1, 8, [.o .nilFunc]⟩,
  ⟨.func, 1, 8, [.o .nilFunc]⟩,
  ⟨.ptr 178, 1, 8, [.o (.pointer none)]⟩,
  ⟨.func, 1, 8, [.o .nilFunc]⟩,
  ⟨.func, 1, 8, [.o .nilFunc]⟩,
  ⟨.func, 1, 8, [.o .nilFunc]⟩,
  ⟨.func, 1, 8, [.o .nilFunc]⟩,
  ⟨.func, 1, 8, [.o .nilFunc]⟩,
  ⟨.ptr 137, 1, 8, [.o (.pointer none)]⟩,
  ⟨.struct [(37, 0)], 1, 24, [.nil]⟩,
  ⟨.struct [(37, 0)], 1, 24, [.nil]⟩,
  ⟨.func, 1, 8, [.o .nilFunc]⟩,
  ⟨.ptr 141, 1, 8, [.o (.pointer none)]⟩,
  ⟨.struct [(37, 0), (4, 1)], 2, 32, [.nil, .b false]⟩,
  ⟨.struct [(37, 0), (4, 1)], 2, 32, [.nil, .b false]⟩,
  ⟨.func, 1, 8, [.o .nilFunc]⟩,
  ⟨.func, 1, 8, [.o .nilFunc]⟩,
  ⟨.func, 1, 8, [.o .nilFunc]⟩,
  ⟨.func, 1, 8, [.o .nilFunc]⟩,
  ⟨.func, 1, 8, [.o .nilFunc]⟩,
  ⟨.func, 1, 8, [.o .nilFunc]⟩,
  ⟨.no, 0, 0, []⟩,
  ⟨.func, 1, 8, [.o .nilFunc]⟩,
  ⟨.func, 1, 8, [.o .nilFunc]⟩,
  ⟨.func, 1, 8, [.o .nilFunc]⟩,
  ⟨.func, 1, 8, [.o .nilFunc]⟩,
  ⟨.func, 1, 8, [.o .nilFunc]⟩,
  ⟨.func, 1, 8, [.o .nilFunc]⟩,
  ⟨.func, 1, 8, [.o .nilFunc]⟩,
  ⟨.int .u64, 1, 8, [.i .u64 0]⟩,
  ⟨.func, 1, 8, [.o .nilFunc]⟩,
  ⟨.func, 1, 8, [.o .nilFunc]⟩,
  ⟨.func, 1, 8, [.o .nilFunc]⟩,
  ⟨.func, 1, 8, [.o .nilFunc]⟩,
  ⟨.func, 1, 8, [.o .nilFunc]⟩,
  ⟨.array 6 9, 6, 96, [.s [], .s [], .s [], .s [], .s [], .s []]⟩,
  ⟨.func, 1, 8, [.o .nilFunc]⟩,
  ⟨.func, 1, 8, [.o .nilFunc]⟩,
  ⟨.func, 1, 8, [.o .nilFunc]⟩,
  ⟨.int .u64, 1, 8, [.i .u64 0]⟩,
  ⟨.func, 1, 8, [.o .nilFunc]⟩,
  ⟨.func, 1, 8, [.o .nilFunc]⟩,
  ⟨.func, 1, 8, [.o .nilFunc]⟩,
  ⟨.func, 1, 8, [.o .nilFunc]⟩,
  ⟨.array 12 36, 12, 96, [.f 0, .f 0, .f 0, .f 0, .f 0, .f 0, .f 0, .f 0, .f 0, .f 0, .f 0, .f 0]⟩,
  ⟨.func, 1, 8, [.o .nilFunc]⟩,
  ⟨.struct [(37, 0)], 1, 24, [.nil]⟩,
  ⟨.struct [(37, 0)], 1, 24, [.nil]⟩,
  ⟨.func, 1, 8, [.o .nilFunc]⟩,
  ⟨.func, 1, 8, [.o .nilFunc]⟩,
  ⟨.struct [(37, 0), (4, 1)], 2, 32, [.nil, .b false]⟩,
  ⟨.struct [(37, 0), (4, 1)], 2, 32, [.nil, .b false]⟩,
  ⟨.func, 1, 8, [.o .nilFunc]⟩,
  ⟨.func, 1, 8, [.o .nilFunc]⟩,
  ⟨.func, 1, 8, [.o .nilFunc]⟩,
  ⟨.func, 1, 8, [.o .nilFunc]⟩,
  ⟨.func, 1, 8, [.o .nilFunc]⟩,
  ⟨.func, 1, 8, [.o .nilFunc]⟩,
  ⟨.func, 1, 8, [.o .nilFunc]⟩,
  ⟨.func, 1, 8, [.o .nilFunc]⟩,
  ⟨.func, 1, 8, [.o .nilFunc]⟩,
  ⟨.int .i64, 1, 8, [.i .i64 0]⟩,
  ⟨.no, 0, 0, []⟩,
  ⟨.func, 1, 8, [.o .nilFunc]⟩,
  ⟨.func, 1, 8, [.o .nilFunc]⟩,
  ⟨.func, 1, 8, [.o .nilFunc]⟩,
  ⟨.func, 1, 8, [.o .nilFunc]⟩,
  ⟨.func, 1, 8, [.o .nilFunc]⟩,
  ⟨.int .u32, 1, 4, [.i .u32 0]⟩,
  ⟨.func, 1, 8, [.o .nilFunc]⟩,
  ⟨.func, 1, 8, [.o .nilFunc]⟩,
  ⟨.func, 1, 8, [.o .nilFunc]⟩,
  ⟨.func, 1, 8, [.o .nilFunc]⟩,
  ⟨.func, 1, 8, [.o .nilFunc]⟩,
  ⟨.func, 1, 8, [.o .nilFunc]⟩,
  ⟨.func, 1, 8, [.o .nilFunc]⟩,
  ⟨.func, 1, 8, [.o .nilFunc]⟩,
  ⟨.func, 1, 8, [.o .nilFunc]⟩,
  ⟨.func, 1, 8, [.o .nilFunc]⟩,
  ⟨.func, 1, 8, [.o .nilFunc]⟩,
  ⟨.func, 1, 8, [.o .nilFunc]⟩,
  ⟨.func, 1, 8, [.o .nilFunc]⟩,
  ⟨.func, 1, 8, [.o .nilFunc]⟩,
  ⟨.func, 1, 8, [.o .nilFunc]⟩,
  ⟨.int .u64, 1, 8, [.i .u64 0]⟩,
  ⟨.func, 1, 8, [.o .nilFunc]⟩,
  ⟨.func, 1, 8, [.o .nilFunc]⟩,
  ⟨.func, 1, 8, [.o .nilFunc]⟩,
  ⟨.ptr 3, 1, 8, [.o (.pointer none)]⟩,
  ⟨.func, 1, 8, [.o .nilFunc]⟩,
  ⟨.no, 0, 0, []⟩,
  ⟨.func, 1, 8, [.o .nilFunc]⟩,
  ⟨.func, 1, 8, [.o .nilFunc]⟩,
  ⟨.func, 1, 8, [.o .nilFunc]⟩,
  ⟨.func, 1, 8, [.o .nilFunc]⟩,
  ⟨.func, 1, 8, [.o .nilFunc]⟩,
  ⟨.func, 1, 8, [.o .nilFunc]⟩,
  ⟨.func, 1, 8, [.o .nilFunc]⟩,
  ⟨.func, 1, 8, [.o .nilFunc]⟩,
  ⟨.ptr 211, 1, 8, [.o (.pointer none)]⟩,
  ⟨.func, 1, 8, [.o .nilFunc]⟩,
  ⟨.func, 1, 8, [.o .nilFunc]⟩,
  ⟨.func, 1, 8, [.o .nilFunc]⟩,
  ⟨.func, 1, 8, [.o .nilFunc]⟩,
  ⟨.no, 0, 0, []⟩,
  ⟨.func, 1, 8, [.o .nilFunc]⟩,
  ⟨.func, 1, 8, [.o .nilFunc]⟩,
  ⟨.func, 1, 8, [.o .nilFunc]⟩,
  ⟨.array 256 5, 256, 256, [.i .u8 0, .i .u8 0, .i .u8 0, .i .u8 0, .i .u8 0, .i .u8 0, .i .u8 0, .i .u8 0, .i .u8 0, .i .u8 0, .i .u8 0, .i .u8 0, .i .u8 0, .i .u8 0, .i .u8 0, .i .u8 0, .i .u8 0, .i .u8 0, .i .u8 0, .i .u8 0, .i .u8 0, .i .u8 0, .i .u8 0, .i .u8 0, .i .u8 0, .i .u8 0, .i .u8 0, .i .u8 0, .i .u8 0, .i .u8 0, .i .u8 0, .i .u8 0, .i .u8 0, .i .u8 0, .i .u8 0, .i .u8 0, .i .u8 0, .i .u8 0, .i .u8 0, .i .u8 0, .i .u8 0, .i .u8 0, .i .u8 0, .i .u8 0, .i .u8 0, .i .u8 0, .i .u8 0, .i .u8 0, .i .u8 0, .i .u8 0, .i .u8 0, .i .u8 0, .i .u8 0, .i .u8 0, .i .u8 0, .i .u8 0, .i .u8 0, .i .u8 0, .i .u8 0, .i .u8 0, .i .u8 0, .i .u8 0, .i .u8 0, .i .u8 0, .i .u8 0, .i .u8 0, .i .u8 0, .i .u8 0, .i .u8 0, .i .u8 0, .i .u8 0, .i .u8 0, .i .u8 0, .i .u8 0, .i .u8 0, .i .u8 0, .i .u8 0, .i .u8 0, .i .u8 0, .i .u8 0, .i .u8 0, .i .u8 0, .i .u8 0, .i .u8 0, .i .u8 0, .i .u8 0, .i .u8 0, .i .u8 0, .i .u8 0, .i .u8 0, .i .u8 0, .i .u8 0, .i .u8 0, .i .u8 0, .i .u8 0, .i .u8 0, .i .u8 0, .i .u8 0, .i .u8 0, .i .u8 0, .i .u8 0, .i .u8 0, .i .u8 0, .i .u8 0, .i .u8 0, .i .u8 0, .i .u8 0, .i .u8 0, .i .u8 0, .i .u8 0, .i .u8 0, .i .u8 0, .i .u8 0, .i .u8 0, .i .u8 0, .i .u8 0, .i .u8 0, .i .u8 0, .i .u8 0, .i .u8 0, .i .u8 0, .i .u8 0, .i .u8 0, .i .u8 0, .i .u8 0, .i .u8 0, .i .u8 0, .i .u8 0, .i .u8 0, .i .u8 0, .i .u8 0, .i .u8 0, .i .u8 0, .i .u8 0, .i .u8 0, .i .u8 0, .i .u8 0, .i .u8 0, .i .u8 0, .i .u8 0, .i .u8 0, .i .u8 0, .i .u8 0, .i .u8 0, .i .u8 0, .i .u8 0, .i .u8 0, .i .u8 0, .i .u8 0, .i .u8 0, .i .u8 0, .i .u8 0, .i .u8 0, .i .u8 0, .i .u8 0, .i .u8 0, .i .u8 0, .i .u8 0, .i .u8 0, .i .u8 0, .i .u8 0, .i .u8 0, .i .u8 0, .i .u8 0, .i .u8 0, .i .u8 0, .i .u8 0, .i .u8 0, .i .u8 0, .i .u8 0, .i .u8 0, .i .u8 0, .i .u8 0, .i .u8 0, .i .u8 0, .i .u8 0, .i .u8 0, .i .u8 0, .i .u8 0, .i .u8 0, .i .u8 0, .i .u8 0, .i .u8 0, .i .u8 0, .i .u8 0, .i .u8 0, .i .u8 0, .i .u8 0, .i .u8 0, .i .u8 0, .i .u8 0, .i .u8 0, .i .u8 0, .i .u8 0, .i .u8 0, .i .u8 0, .i .u8 0, .i .u8 0, .i .u8 0, .i .u8 0, .i .u8 0, .i .u8 0, .i .u8 0, .i .u8 0, .i .u8 0, .i .u8 0, .i .u8 0, .i .u8 0, .i .u8 0, .i .u8 0, .i .u8 0, .i .u8 0, .i .u8 0, .i .u8 0, .i .u8 0, .i .u8 0, .i .u8 0, .i .u8 0, .i .u8 0, .i .u8 0, .i .u8 0, .i .u8 0, .i .u8 0, .i .u8 0, .i .u8 0, .i .u8 0, .i .u8 0, .i .u8 0, .i .u8 0, .i .u8 0, .i .u8 0, .i .u8 0, .i .u8 0, .i .u8 0, .i .u8 0, .i .u8 0, .i .u8 0, .i .u8 0, .i .u8 0, .i .u8 0, .i .u8 0, .i .u8 0, .i .u8 0, .i .u8 0, .i .u8 0, .i .u8 0, .i .u8 0, .i .u8 0, .i .u8 0, .i .u8 0, .i .u8 0, .i .u8 0, .i .u8 0, .i .u8 0, .i .u8 0, .i .u8 0]⟩,
  ⟨.struct [(5, 0), (5, 1)], 2, 2, [.i .u8 0, .i .u8 0]⟩,
  ⟨.struct [(5, 0), (5, 1)], 2, 2, [.i .u8 0, .i .u8 0]⟩,
  ⟨.array 16 237, 32, 32, [.i .u8 0, .i .u8 0, .i .u8 0, .i .u8 0, .i .u8 0, .i .u8 0, .i .u8 0, .i .u8 0, .i .u8 0, .i .u8 0, .i .u8 0, .i .u8 0, .i .u8 0, .i .u8 0, .i .u8 0, .i .u8 0, .i .u8 0, .i .u8 0, .i .u8 0, .i .u8 0, .i .u8 0, .i .u8 0, .i .u8 0, .i .u8 0, .i .u8 0, .i .u8 0, .i .u8 0, .i .u8 0, .i .u8 0, .i .u8 0, .i .u8 0, .i .u8 0]⟩,
  ⟨.no, 0, 0, []⟩,
  ⟨.func, 1, 8, [.o .nilFunc]⟩,
  ⟨.func, 1, 8, [.o .nilFunc]⟩,
  ⟨.struct [(17, 0), (17, 1), (17, 2), (9, 3)], 4, 40, [.o (.pointer none), .o (.pointer none), .o (.pointer none), .s []]⟩,
  ⟨.struct [(17, 0), (17, 1), (17, 2), (9, 3)], 4, 40, [.o (.pointer none), .o (.pointer none), .o (.pointer none), .s []]⟩,
  ⟨.no, 0, 0, []⟩,
  ⟨.no, 0, 0, []⟩,
  ⟨.no, 0, 0, []⟩,
  ⟨.int .u8, 1, 1, [.i .u8 0]⟩,
  ⟨.int .u8, 1, 1, [.i .u8 0]⟩,
  ⟨.func, 1, 8, [.o .nilFunc]⟩,
  ⟨.ptr 5, 1, 8, [.o (.pointer none)]⟩,
  ⟨.int .i32, 1, 4, [.i .i32 0]⟩,
  ⟨.int .i32, 1, 4, [.i .i32 0]⟩,
  ⟨.struct [(12, 0), (12, 1), (195, 2), (247, 3), (5, 4), (5, 5), (248, 6), (249, 7), (250, 8), (251, 9), (252, 10)], 11, 48, [.i .u64 0, .i .u64 0, .i .u32 0, .i .u8 0, .i .u8 0, .i .u8 0, .i .u8 0, .o .nilFunc, .o (.pointer none), .i .i32 0, .i .i32 0]⟩,
  ⟨.struct [(12, 0), (12, 1), (195, 2), (247, 3), (5, 4), (5, 5), (248, 6), (249, 7), (250, 8), (251, 9), (252, 10)], 11, 48, [.i .u64 0, .i .u64 0, .i .u32 0, .i .u8 0, .i .u8 0, .i .u8 0, .i .u8 0, .o .nilFunc, .o (.pointer none), .i .i32 0, .i .i32 0]⟩,
  ⟨.no, 0, 0, []⟩]
def tab : Tab := fun t => tabL.getD t ⟨.no, 0, 0, []⟩
theorem tab1 : tab 1 = ⟨.func, 1, 8, [.o .nilFunc]⟩ := rfl
theorem okT1 : OkTI Tryz.prog 1 ⟨.func, 1, 8, [.o .nilFunc]⟩ := ⟨by rw [Tryz.underlying1]; first | trivial | rfl | exact ⟨rfl, rfl⟩, Tryz.t1, .nilFunc, by kernel_rfl, rfl, rfl, rfl, rfl, rfl, (fun h => by cases h), fun _ => ⟨rfl, rfl⟩⟩
theorem tab2 : tab 2 = ⟨.int .i64, 1, 8, [.i .i64 0]⟩ := rfl
theorem okT2 : OkTI Tryz.prog 2 ⟨.int .i64, 1, 8, [.i .i64 0]⟩ := ⟨by rw [Tryz.underlying2]; first | trivial | rfl | exact ⟨rfl, rfl⟩, Tryz.t2, .int .i64 0, by kernel_rfl, rfl, rfl, rfl, rfl, rfl, (fun h => by cases h), fun _ => ⟨rfl, rfl⟩⟩
theorem tab3 : tab 3 = ⟨.int .i64, 1, 8, [.i .i64 0]⟩ := rfl
theorem okT3 : OkTI Tryz.prog 3 ⟨.int .i64, 1, 8, [.i .i64 0]⟩ := ⟨by rw [Tryz.underlying3]; first | trivial | rfl | exact ⟨rfl, rfl⟩, Tryz.t3, .int .i64 0, by kernel_rfl, rfl, rfl, rfl, rfl, rfl, (fun h => by cases h), fun _ => ⟨rfl, rfl⟩⟩
theorem tab4 : tab 4 = ⟨.bool, 1, 1, [.b false]⟩ := rfl
theorem okT4 : OkTI Tryz.prog 4 ⟨.bool, 1, 1, [.b false]⟩ := ⟨by rw [Tryz.underlying4]; first | trivial | rfl | exact ⟨rfl, rfl⟩, Tryz.t4, .bool false, by kernel_rfl, rfl, rfl, rfl, rfl, rfl, (fun h => by cases h), fun _ => ⟨rfl, rfl⟩⟩
theorem tab5 : tab 5 = ⟨.int .u8, 1, 1, [.i .u8 0]⟩ := rfl
theorem okT5 : OkTI Tryz.prog 5 ⟨.int .u8, 1, 1, [.i .u8 0]⟩ := ⟨by rw [Tryz.underlying5]; first | trivial | rfl | exact ⟨rfl, rfl⟩, Tryz.t5, .int .u8 0, by kernel_rfl, rfl, rfl, rfl, rfl, rfl, (fun h => by cases h), fun _ => ⟨rfl, rfl⟩⟩
theorem tab6 : tab 6 = ⟨.int .u8, 1, 1, [.i .u8 0]⟩ := rfl
theorem okT6 : OkTI Tryz.prog 6 ⟨.int .u8, 1, 1, [.i .u8 0]⟩ := ⟨by rw [Tryz.underlying6]; first | trivial | rfl | exact ⟨rfl, rfl⟩, Tryz.t6, .int .u8 0, by kernel_rfl, rfl, rfl, rfl, rfl, rfl, (fun h => by cases h), fun _ => ⟨rfl, rfl⟩⟩
theorem tab7 : tab 7 = ⟨.struct [(2, 0), (3, 1), (4, 2), (6, 3)], 4, 24, [.i .i64 0, .i .i64 0, .b false, .i .u8 0]⟩ := rfl
theorem okT7 : OkTI Tryz.prog 7 ⟨.struct [(2, 0), (3, 1), (4, 2), (6, 3)], 4, 24, [.i .i64 0, .i .i64 0, .b false, .i .u8 0]⟩ := ⟨by rw [Tryz.underlying7]; first | trivial | rfl | exact ⟨rfl, rfl⟩, Tryz.t7, .agg #[.int .i64 0, .int .i64 0, .bool false, .int .u8 0], by kernel_rfl, rfl, rfl, rfl, rfl, rfl, fun _ => ⟨_, rfl⟩, (fun h => by cases h)⟩
theorem tab8 : tab 8 = ⟨.struct [(2, 0), (3, 1), (4, 2), (6, 3)], 4, 24, [.i .i64 0, .i .i64 0, .b false, .i .u8 0]⟩ := rfl
theorem okT8 : OkTI Tryz.prog 8 ⟨.struct [(2, 0), (3, 1), (4, 2), (6, 3)], 4, 24, [.i .i64 0, .i .i64 0, .b false, .i .u8 0]⟩ := ⟨by rw [Tryz.underlying8]; first | trivial | rfl | exact ⟨rfl, rfl⟩, Tryz.t8, .agg #[.int .i64 0, .int .i64 0, .bool false, .int .u8 0], by kernel_rfl, rfl, rfl, rfl, rfl, rfl, fun _ => ⟨_, rfl⟩, (fun h => by cases h)⟩
theorem tab9 : tab 9 = ⟨.str, 1, 16, [.s []]⟩ := rfl
theorem okT9 : OkTI Tryz.prog 9 ⟨.str, 1, 16, [.s []]⟩ := ⟨by rw [Tryz.underlying9]; first | trivial | rfl | exact ⟨rfl, rfl⟩, Tryz.t9, .string ⟨#[]⟩, by kernel_rfl, rfl, rfl, rfl, rfl, rfl, (fun h => by cases h), fun _ => ⟨rfl, rfl⟩⟩
theorem tab10 : tab 10 = ⟨.str, 1, 16, [.s []]⟩ := rfl
theorem okT10 : OkTI Tryz.prog 10 ⟨.str, 1, 16, [.s []]⟩ := ⟨by rw [Tryz.underlying10]; first | trivial | rfl | exact ⟨rfl, rfl⟩, Tryz.t10, .string ⟨#[]⟩, by kernel_rfl, rfl, rfl, rfl, rfl, rfl, (fun h => by cases h), fun _ => ⟨rfl, rfl⟩⟩
theorem tab11 : tab 11 = ⟨.str, 1, 16, [.s []]⟩ := rfl
theorem okT11 : OkTI Tryz.prog 11 ⟨.str, 1, 16, [.s []]⟩ := ⟨by rw [Tryz.underlying11]; first | trivial | rfl | exact ⟨rfl, rfl⟩, Tryz.t11, .string ⟨#[]⟩, by kernel_rfl, rfl, rfl, rfl, rfl, rfl, (fun h => by cases h), fun _ => ⟨rfl, rfl⟩⟩
theorem tab12 : tab 12 = ⟨.int .u64, 1, 8, [.i .u64 0]⟩ := rfl
theorem okT12 : OkTI Tryz.prog 12 ⟨.int .u64, 1, 8, [.i .u64 0]⟩ := ⟨by rw [Tryz.underlying12]; first | trivial | rfl | exact ⟨rfl, rfl⟩, Tryz.t12, .int .u64 0, by kernel_rfl, rfl, rfl, rfl, rfl, rfl, (fun h => by cases h), fun _ => ⟨rfl, rfl⟩⟩
theorem tab13 : tab 13 = ⟨.struct [(9, 0), (12, 1)], 2, 24, [.s [], .i .u64 0]⟩ := rfl
theorem okT13 : OkTI Tryz.prog 13 ⟨.struct [(9, 0), (12, 1)], 2, 24, [.s [], .i .u64 0]⟩ := ⟨by rw [Tryz.underlying13]; first | trivial | rfl | exact ⟨rfl, rfl⟩, Tryz.t13, .agg #[.string ⟨#[]⟩, .int .u64 0], by kernel_rfl, rfl, rfl, rfl, rfl, rfl, fun _ => ⟨_, rfl⟩, (fun h => by cases h)⟩
theorem tab14 : tab 14 = ⟨.struct [(9, 0), (12, 1)], 2, 24, [.s [], .i .u64 0]⟩ := rfl
theorem okT14 : OkTI Tryz.prog 14 ⟨.struct [(9, 0), (12, 1)], 2, 24, [.s [], .i .u64 0]⟩ := ⟨by rw [Tryz.underlying14]; first | trivial | rfl | exact ⟨rfl, rfl⟩, Tryz.t14, .agg #[.string ⟨#[]⟩, .int .u64 0], by kernel_rfl, rfl, rfl, rfl, rfl, rfl, fun _ => ⟨_, rfl⟩, (fun h => by cases h)⟩
theorem tab15 : tab 15 = ⟨.ptr 243, 1, 8, [.o (.pointer none)]⟩ := rfl
theorem okT15 : OkTI Tryz.prog 15 ⟨.ptr 243, 1, 8, [.o (.pointer none)]⟩ := ⟨by rw [Tryz.underlying15]; first | trivial | rfl | exact ⟨rfl, rfl⟩, Tryz.t15, .pointer none, by kernel_rfl, rfl, rfl, rfl, rfl, rfl, (fun h => by cases h), fun _ => ⟨rfl, rfl⟩⟩
theorem tab16 : tab 16 = ⟨.ptr 246, 1, 8, [.o (.pointer none)]⟩ := rfl
theorem okT16 : OkTI Tryz.prog 16 ⟨.ptr 246, 1, 8, [.o (.pointer none)]⟩ := ⟨by rw [Tryz.underlying16]; first | trivial | rfl | exact ⟨rfl, rfl⟩, Tryz.t16, .pointer none, by kernel_rfl, rfl, rfl, rfl, rfl, rfl, (fun h => by cases h), fun _ => ⟨rfl, rfl⟩⟩
theorem tab17 : tab 17 = ⟨.ptr 254, 1, 8, [.o (.pointer none)]⟩ := rfl
theorem okT17 : OkTI Tryz.prog 17 ⟨.ptr 254, 1, 8, [.o (.pointer none)]⟩ := ⟨by rw [Tryz.underlying17]; first | trivial | rfl | exact ⟨rfl, rfl⟩, Tryz.t17, .pointer none, by kernel_rfl, rfl, rfl, rfl, rfl, rfl, (fun h => by cases h), fun _ => ⟨rfl, rfl⟩⟩
theorem tab18 : tab 18 = ⟨.struct [(17, 0)], 1, 8, [.o (.pointer none)]⟩ := rfl
theorem okT18 : OkTI Tryz.prog 18 ⟨.struct [(17, 0)], 1, 8, [.o (.pointer none)]⟩ := ⟨by rw [Tryz.underlying18]; first | trivial | rfl | exact ⟨rfl, rfl⟩, Tryz.t18, .agg #[.pointer none], by kernel_rfl, rfl, rfl, rfl, rfl, rfl, fun _ => ⟨_, rfl⟩, (fun h => by cases h)⟩
theorem tab19 : tab 19 = ⟨.struct [(17, 0)], 1, 8, [.o (.pointer none)]⟩ := rfl
theorem okT19 : OkTI Tryz.prog 19 ⟨.struct [(17, 0)], 1, 8, [.o (.pointer none)]⟩ := ⟨by rw [Tryz.underlying19]; first | trivial | rfl | exact ⟨rfl, rfl⟩, Tryz.t19, .agg #[.pointer none], by kernel_rfl, rfl, rfl, rfl, rfl, rfl, fun _ => ⟨_, rfl⟩, (fun h => by cases h)⟩
theorem tab20 : tab 20 = ⟨.iface, 1, 16, [.o .nilIface]⟩ := rfl
theorem okT20 : OkTI Tryz.prog 20 ⟨.iface, 1, 16, [.o .nilIface]⟩ := ⟨by rw [Tryz.underlying20]; first | trivial | rfl | exact ⟨rfl, rfl⟩, Tryz.t20, .nilIface, by kernel_rfl, rfl, rfl, rfl, rfl, rfl, (fun h => by cases h), fun _ => ⟨rfl, rfl⟩⟩
theorem tab21 : tab 21 = ⟨.int .i32, 1, 4, [.i .i32 0]⟩ := rfl
theorem okT21 : OkTI Tryz.prog 21 ⟨.int .i32, 1, 4, [.i .i32 0]⟩ := ⟨by rw [Tryz.underlying21]; first | trivial | rfl | exact ⟨rfl, rfl⟩, Tryz.t21, .int .i32 0, by kernel_rfl, rfl, rfl, rfl, rfl, rfl, (fun h => by cases h), fun _ => ⟨rfl, rfl⟩⟩
theorem tab22 : tab 22 = ⟨.slice 60, 1, 24, [.nil]⟩ := rfl
theorem okT22 : OkTI Tryz.prog 22 ⟨.slice 60, 1, 24, [.nil]⟩ := ⟨by rw [Tryz.underlying22]; first | trivial | rfl | exact ⟨rfl, rfl⟩, Tryz.t22, .slice none 0 0, by kernel_rfl, rfl, rfl, rfl, rfl, rfl, (fun h => by cases h), fun _ => ⟨rfl, rfl⟩⟩
theorem tab23 : tab 23 = ⟨.slice 61, 1, 24, [.nil]⟩ := rfl
theorem okT23 : OkTI Tryz.prog 23 ⟨.slice 61, 1, 24, [.nil]⟩ := ⟨by rw [Tryz.underlying23]; first | trivial | rfl | exact ⟨rfl, rfl⟩, Tryz.t23, .slice none 0 0, by kernel_rfl, rfl, rfl, rfl, rfl, rfl, (fun h => by cases h), fun _ => ⟨rfl, rfl⟩⟩
theorem tab24 : tab 24 = ⟨.slice 29, 1, 24, [.nil]⟩ := rfl
theorem okT24 : OkTI Tryz.prog 24 ⟨.slice 29, 1, 24, [.nil]⟩ := ⟨by rw [Tryz.underlying24]; first | trivial | rfl | exact ⟨rfl, rfl⟩, Tryz.t24, .slice none 0 0, by kernel_rfl, rfl, rfl, rfl, rfl, rfl, (fun h => by cases h), fun _ => ⟨rfl, rfl⟩⟩
theorem tab25 : tab 25 = ⟨.slice 30, 1, 24, [.nil]⟩ := rfl
theorem okT25 : OkTI Tryz.prog 25 ⟨.slice 30, 1, 24, [.nil]⟩ := ⟨by rw [Tryz.underlying25]; first | trivial | rfl | exact ⟨rfl, rfl⟩, Tryz.t25, .slice none 0 0, by kernel_rfl, rfl, rfl, rfl, rfl, rfl, (fun h => by cases h), fun _ => ⟨rfl, rfl⟩⟩
theorem tab27 : tab 27 = ⟨.func, 1, 8, [.o .nilFunc]⟩ := rfl
theorem okT27 : OkTI Tryz.prog 27 ⟨.func, 1, 8, [.o .nilFunc]⟩ := ⟨by rw [Tryz.underlying27]; first | trivial | rfl | exact ⟨rfl, rfl⟩, Tryz.t27, .nilFunc, by kernel_rfl, rfl, rfl, rfl, rfl, rfl, (fun h => by cases h), fun _ => ⟨rfl, rfl⟩⟩
theorem tab28 : tab 28 = ⟨.func, 1, 8, [.o .nilFunc]⟩ := rfl
theorem okT28 : OkTI Tryz.prog 28 ⟨.func, 1, 8, [.o .nilFunc]⟩ := ⟨by rw [Tryz.underlying28]; first | trivial | rfl | exact ⟨rfl, rfl⟩, Tryz.t28, .nilFunc, by kernel_rfl, rfl, rfl, rfl, rfl, rfl, (fun h => by cases h), fun _ => ⟨rfl, rfl⟩⟩
theorem tab29 : tab 29 = ⟨.slice 94, 1, 24, [.nil]⟩ := rfl
theorem okT29 : OkTI Tryz.prog 29 ⟨.slice 94, 1, 24, [.nil]⟩ := ⟨by rw [Tryz.underlying29]; first | trivial | rfl | exact ⟨rfl, rfl⟩, Tryz.t29, .slice none 0 0, by kernel_rfl, rfl, rfl, rfl, rfl, rfl, (fun h => by cases h), fun _ => ⟨rfl, rfl⟩⟩
theorem tab30 : tab 30 = ⟨.slice 43, 1, 24, [.nil]⟩ := rfl
theorem okT30 : OkTI Tryz.prog 30 ⟨.slice 43, 1, 24, [.nil]⟩ := ⟨by rw [Tryz.underlying30]; first | trivial | rfl | exact ⟨rfl, rfl⟩, Tryz.t30, .slice none 0 0, by kernel_rfl, rfl, rfl, rfl, rfl, rfl, (fun h => by cases h), fun _ => ⟨rfl, rfl⟩⟩
theorem tab32 : tab 32 = ⟨.func, 1, 8, [.o .nilFunc]⟩ := rfl
theorem okT32 : OkTI Tryz.prog 32 ⟨.func, 1, 8, [.o .nilFunc]⟩ := ⟨by rw [Tryz.underlying32]; first | trivial | rfl | exact ⟨rfl, rfl⟩, Tryz.t32, .nilFunc, by kernel_rfl, rfl, rfl, rfl, rfl, rfl, (fun h => by cases h), fun _ => ⟨rfl, rfl⟩⟩
theorem tab33 : tab 33 = ⟨.func, 1, 8, [.o .nilFunc]⟩ := rfl
theorem okT33 : OkTI Tryz.prog 33 ⟨.func, 1, 8, [.o .nilFunc]⟩ := ⟨by rw [Tryz.underlying33]; first | trivial | rfl | exact ⟨rfl, rfl⟩, Tryz.t33, .nilFunc, by kernel_rfl, rfl, rfl, rfl, rfl, rfl, (fun h => by cases h), fun _ => ⟨rfl, rfl⟩⟩
theorem tab34 : tab 34 = ⟨.func, 1, 8, [.o .nilFunc]⟩ := rfl
theorem okT34 : OkTI Tryz.prog 34 ⟨.func, 1, 8, [.o .nilFunc]⟩ := ⟨by rw [Tryz.underlying34]; first | trivial | rfl | exact ⟨rfl, rfl⟩, Tryz.t34, .nilFunc, by kernel_rfl, rfl, rfl, rfl, rfl, rfl, (fun h => by cases h), fun _ => ⟨rfl, rfl⟩⟩
theorem tab35 : tab 35 = ⟨.func, 1, 8, [.o .nilFunc]⟩ := rfl
theorem okT35 : OkTI Tryz.prog 35 ⟨.func, 1, 8, [.o .nilFunc]⟩ := ⟨by rw [Tryz.underlying35]; first | trivial | rfl | exact ⟨rfl, rfl⟩, Tryz.t35, .nilFunc, by kernel_rfl, rfl, rfl, rfl, rfl, rfl, (fun h => by cases h), fun _ => ⟨rfl, rfl⟩⟩
theorem tab36 : tab 36 = ⟨.float, 1, 8, [.f 0]⟩ := rfl
theorem okT36 : OkTI Tryz.prog 36 ⟨.float, 1, 8, [.f 0]⟩ := ⟨by rw [Tryz.underlying36]; first | trivial | rfl | exact ⟨rfl, rfl⟩, Tryz.t36, .float .f64 0, by kernel_rfl, rfl, rfl, rfl, rfl, rfl, (fun h => by cases h), fun _ => ⟨rfl, rfl⟩⟩
theorem tab37 : tab 37 = ⟨.slice 5, 1, 24, [.nil]⟩ := rfl
theorem okT37 : OkTI Tryz.prog 37 ⟨.slice 5, 1, 24, [.nil]⟩ := ⟨by rw [Tryz.underlying37]; first | trivial | rfl | exact ⟨rfl, rfl⟩, Tryz.t37, .slice none 0 0, by kernel_rfl, rfl, rfl, rfl, rfl, rfl, (fun h => by cases h), fun _ => ⟨rfl, rfl⟩⟩
theorem tab38 : tab 38 = ⟨.struct [(3, 0), (3, 1), (36, 2), (37, 3)], 4, 48, [.i .i64 0, .i .i64 0, .f 0, .nil]⟩ := rfl
theorem okT38 : OkTI Tryz.prog 38 ⟨.struct [(3, 0), (3, 1), (36, 2), (37, 3)], 4, 48, [.i .i64 0, .i .i64 0, .f 0, .nil]⟩ := ⟨by rw [Tryz.underlying38]; first | trivial | rfl | exact ⟨rfl, rfl⟩, Tryz.t38, .agg #[.int .i64 0, .int .i64 0, .float .f64 0, .slice none 0 0], by kernel_rfl, rfl, rfl, rfl, rfl, rfl, fun _ => ⟨_, rfl⟩, (fun h => by cases h)⟩
theorem tab39 : tab 39 = ⟨.struct [(3, 0), (3, 1), (36, 2), (37, 3)], 4, 48, [.i .i64 0, .i .i64 0, .f 0, .nil]⟩ := rfl
theorem okT39 : OkTI Tryz.prog 39 ⟨.struct [(3, 0), (3, 1), (36, 2), (37, 3)], 4, 48, [.i .i64 0, .i .i64 0, .f 0, .nil]⟩ := ⟨by rw [Tryz.underlying39]; first | trivial | rfl | exact ⟨rfl, rfl⟩, Tryz.t39, .agg #[.int .i64 0, .int .i64 0, .float .f64 0, .slice none 0 0], by kernel_rfl, rfl, rfl, rfl, rfl, rfl, fun _ => ⟨_, rfl⟩, (fun h => by cases h)⟩
theorem tab41 : tab 41 = ⟨.func, 1, 8, [.o .nilFunc]⟩ := rfl
theorem okT41 : OkTI Tryz.prog 41 ⟨.func, 1, 8, [.o .nilFunc]⟩ := ⟨by rw [Tryz.underlying41]; first | trivial | rfl | exact ⟨rfl, rfl⟩, Tryz.t41, .nilFunc, by kernel_rfl, rfl, rfl, rfl, rfl, rfl, (fun h => by cases h), fun _ => ⟨rfl, rfl⟩⟩
theorem tab42 : tab 42 = ⟨.struct [(9, 0), (39, 1)], 5, 64, [.s [], .i .i64 0, .i .i64 0, .f 0, .nil]⟩ := rfl
theorem okT42 : OkTI Tryz.prog 42 ⟨.struct [(9, 0), (39, 1)], 5, 64, [.s [], .i .i64 0, .i .i64 0, .f 0, .nil]⟩ := ⟨by rw [Tryz.underlying42]; first | trivial | rfl | exact ⟨rfl, rfl⟩, Tryz.t42, .agg #[.string ⟨#[]⟩, .int .i64 0, .int .i64 0, .float .f64 0, .slice none 0 0], by kernel_rfl, rfl, rfl, rfl, rfl, rfl, fun _ => ⟨_, rfl⟩, (fun h => by cases h)⟩
theorem tab43 : tab 43 = ⟨.struct [(9, 0), (39, 1)], 5, 64, [.s [], .i .i64 0, .i .i64 0, .f 0, .nil]⟩ := rfl
theorem okT43 : OkTI Tryz.prog 43 ⟨.struct [(9, 0), (39, 1)], 5, 64, [.s [], .i .i64 0, .i .i64 0, .f 0, .nil]⟩ := ⟨by rw [Tryz.underlying43]; first | trivial | rfl | exact ⟨rfl, rfl⟩, Tryz.t43, .agg #[.string ⟨#[]⟩, .int .i64 0, .int .i64 0, .float .f64 0, .slice none 0 0], by kernel_rfl, rfl, rfl, rfl, rfl, rfl, fun _ => ⟨_, rfl⟩, (fun h => by cases h)⟩
theorem tab44 : tab 44 = ⟨.func, 1, 8, [.o .nilFunc]⟩ := rfl
theorem okT44 : OkTI Tryz.prog 44 ⟨.func, 1, 8, [.o .nilFunc]⟩ := ⟨by rw [Tryz.underlying44]; first | trivial | rfl | exact ⟨rfl, rfl⟩, Tryz.t44, .nilFunc, by kernel_rfl, rfl, rfl, rfl, rfl, rfl, (fun h => by cases h), fun _ => ⟨rfl, rfl⟩⟩
theorem tab45 : tab 45 = ⟨.func, 1, 8, [.o .nilFunc]⟩ := rfl
theorem okT45 : OkTI Tryz.prog 45 ⟨.func, 1, 8, [.o .nilFunc]⟩ := ⟨by rw [Tryz.underlying45]; first | trivial | rfl | exact ⟨rfl, rfl⟩, Tryz.t45, .nilFunc, by kernel_rfl, rfl, rfl, rfl, rfl, rfl, (fun h => by cases h), fun _ => ⟨rfl, rfl⟩⟩
theorem tab46 : tab 46 = ⟨.func, 1, 8, [.o .nilFunc]⟩ := rfl
theorem okT46 : OkTI Tryz.prog 46 ⟨.func, 1, 8, [.o .nilFunc]⟩ := ⟨by rw [Tryz.underlying46]; first | trivial | rfl | exact ⟨rfl, rfl⟩, Tryz.t46, .nilFunc, by kernel_rfl, rfl, rfl, rfl, rfl, rfl, (fun h => by cases h), fun _ => ⟨rfl, rfl⟩⟩
theorem tab47 : tab 47 = ⟨.func, 1, 8, [.o .nilFunc]⟩ := rfl
theorem okT47 : OkTI Tryz.prog 47 ⟨.func, 1, 8, [.o .nilFunc]⟩ := ⟨by rw [Tryz.underlying47]; first | trivial | rfl | exact ⟨rfl, rfl⟩, Tryz.t47, .nilFunc, by kernel_rfl, rfl, rfl, rfl, rfl, rfl, (fun h => by cases h), fun _ => ⟨rfl, rfl⟩⟩
theorem tab48 : tab 48 = ⟨.slice 3, 1, 24, [.nil]⟩ := rfl
theorem okT48 : OkTI Tryz.prog 48 ⟨.slice 3, 1, 24, [.nil]⟩ := ⟨by rw [Tryz.underlying48]; first | trivial | rfl | exact ⟨rfl, rfl⟩, Tryz.t48, .slice none 0 0, by kernel_rfl, rfl, rfl, rfl, rfl, rfl, (fun h => by cases h), fun _ => ⟨rfl, rfl⟩⟩
theorem tab49 : tab 49 = ⟨.func, 1, 8, [.o .nilFunc]⟩ := rfl
theorem okT49 : OkTI Tryz.prog 49 ⟨.func, 1, 8, [.o .nilFunc]⟩ := ⟨by rw [Tryz.underlying49]; first | trivial | rfl | exact ⟨rfl, rfl⟩, Tryz.t49, .nilFunc, by kernel_rfl, rfl, rfl, rfl, rfl, rfl, (fun h => by cases h), fun _ => ⟨rfl, rfl⟩⟩
theorem tab51 : tab 51 = ⟨.func, 1, 8, [.o .nilFunc]⟩ := rfl
theorem okT51 : OkTI Tryz.prog 51 ⟨.func, 1, 8, [.o .nilFunc]⟩ := ⟨by rw [Tryz.underlying51]; first | trivial | rfl | exact ⟨rfl, rfl⟩, Tryz.t51, .nilFunc, by kernel_rfl, rfl, rfl, rfl, rfl, rfl, (fun h => by cases h), fun _ => ⟨rfl, rfl⟩⟩
theorem tab52 : tab 52 = ⟨.func, 1, 8, [.o .nilFunc]⟩ := rfl
theorem okT52 : OkTI Tryz.prog 52 ⟨.func, 1, 8, [.o .nilFunc]⟩ := ⟨by rw [Tryz.underlying52]; first | trivial | rfl | exact ⟨rfl, rfl⟩, Tryz.t52, .nilFunc, by kernel_rfl, rfl, rfl, rfl, rfl, rfl, (fun h => by cases h), fun _ => ⟨rfl, rfl⟩⟩
theorem tab53 : tab 53 = ⟨.slice 9, 1, 24, [.nil]⟩ := rfl
theorem okT53 : OkTI Tryz.prog 53 ⟨.slice 9, 1, 24, [.nil]⟩ := ⟨by rw [Tryz.underlying53]; first | trivial | rfl | exact ⟨rfl, rfl⟩, Tryz.t53, .slice none 0 0, by kernel_rfl, rfl, rfl, rfl, rfl, rfl, (fun h => by cases h), fun _ => ⟨rfl, rfl⟩⟩
theorem tab55 : tab 55 = ⟨.func, 1, 8, [.o .nilFunc]⟩ := rfl
theorem okT55 : OkTI Tryz.prog 55 ⟨.func, 1, 8, [.o .nilFunc]⟩ := ⟨by rw [Tryz.underlying55]; first | trivial | rfl | exact ⟨rfl, rfl⟩, Tryz.t55, .nilFunc, by kernel_rfl, rfl, rfl, rfl, rfl, rfl, (fun h => by cases h), fun _ => ⟨rfl, rfl⟩⟩
theorem tab56 : tab 56 = ⟨.func, 1, 8, [.o .nilFunc]⟩ := rfl
theorem okT56 : OkTI Tryz.prog 56 ⟨.func, 1, 8, [.o .nilFunc]⟩ := ⟨by rw [Tryz.underlying56]; first | trivial | rfl | exact ⟨rfl, rfl⟩, Tryz.t56, .nilFunc, by kernel_rfl, rfl, rfl, rfl, rfl, rfl, (fun h => by cases h), fun _ => ⟨rfl, rfl⟩⟩
theorem tab57 : tab 57 = ⟨.func, 1, 8, [.o .nilFunc]⟩ := rfl
theorem okT57 : OkTI Tryz.prog 57 ⟨.func, 1, 8, [.o .nilFunc]⟩ := ⟨by rw [Tryz.underlying57]; first | trivial | rfl | exact ⟨rfl, rfl⟩, Tryz.t57, .nilFunc, by kernel_rfl, rfl, rfl, rfl, rfl, rfl, (fun h => by cases h), fun _ => ⟨rfl, rfl⟩⟩
theorem tab58 : tab 58 = ⟨.func, 1, 8, [.o .nilFunc]⟩ := rfl
theorem okT58 : OkTI Tryz.prog 58 ⟨.func, 1, 8, [.o .nilFunc]⟩ := ⟨by rw [Tryz.underlying58]; first | trivial | rfl | exact ⟨rfl, rfl⟩, Tryz.t58, .nilFunc, by kernel_rfl, rfl, rfl, rfl, rfl, rfl, (fun h => by cases h), fun _ => ⟨rfl, rfl⟩⟩
theorem tab59 : tab 59 = ⟨.func, 1, 8, [.o .nilFunc]⟩ := rfl
theorem okT59 : OkTI Tryz.prog 59 ⟨.func, 1, 8, [.o .nilFunc]⟩ := ⟨by rw [Tryz.underlying59]; first | trivial | rfl | exact ⟨rfl, rfl⟩, Tryz.t59, .nilFunc, by kernel_rfl, rfl, rfl, rfl, rfl, rfl, (fun h => by cases h), fun _ => ⟨rfl, rfl⟩⟩
theorem tab60 : tab 60 = ⟨.slice 106, 1, 24, [.nil]⟩ := rfl
theorem okT60 : OkTI Tryz.prog 60 ⟨.slice 106, 1, 24, [.nil]⟩ := ⟨by rw [Tryz.underlying60]; first | trivial | rfl | exact ⟨rfl, rfl⟩, Tryz.t60, .slice none 0 0, by kernel_rfl, rfl, rfl, rfl, rfl, rfl, (fun h => by cases h), fun _ => ⟨rfl, rfl⟩⟩
theorem tab61 : tab 61 = ⟨.slice 83, 1, 24, [.nil]⟩ := rfl
theorem okT61 : OkTI Tryz.prog 61 ⟨.slice 83, 1, 24, [.nil]⟩ := ⟨by rw [Tryz.underlying61]; first | trivial | rfl | exact ⟨rfl, rfl⟩, Tryz.t61, .slice none 0 0, by kernel_rfl, rfl, rfl, rfl, rfl, rfl, (fun h => by cases h), fun _ => ⟨rfl, rfl⟩⟩
theorem tab62 : tab 62 = ⟨.func, 1, 8, [.o .nilFunc]⟩ := rfl
theorem okT62 : OkTI Tryz.prog 62 ⟨.func, 1, 8, [.o .nilFunc]⟩ := ⟨by rw [Tryz.underlying62]; first | trivial | rfl | exact ⟨rfl, rfl⟩, Tryz.t62, .nilFunc, by kernel_rfl, rfl, rfl, rfl, rfl, rfl, (fun h => by cases h), fun _ => ⟨rfl, rfl⟩⟩
theorem tab63 : tab 63 = ⟨.func, 1, 8, [.o .nilFunc]⟩ := rfl
theorem okT63 : OkTI Tryz.prog 63 ⟨.func, 1, 8, [.o .nilFunc]⟩ := ⟨by rw [Tryz.underlying63]; first | trivial | rfl | exact ⟨rfl, rfl⟩, Tryz.t63, .nilFunc, by kernel_rfl, rfl, rfl, rfl, rfl, rfl, (fun h => by cases h), fun _ => ⟨rfl, rfl⟩⟩
theorem tab64 : tab 64 = ⟨.func, 1, 8, [.o .nilFunc]⟩ := rfl
theorem okT64 : OkTI Tryz.prog 64 ⟨.func, 1, 8, [.o .nilFunc]⟩ := ⟨by rw [Tryz.underlying64]; first | trivial | rfl | exact ⟨rfl, rfl⟩, Tryz.t64, .nilFunc, by kernel_rfl, rfl, rfl, rfl, rfl, rfl, (fun h => by cases h), fun _ => ⟨rfl, rfl⟩⟩
theorem tab65 : tab 65 = ⟨.func, 1, 8, [.o .nilFunc]⟩ := rfl
theorem okT65 : OkTI Tryz.prog 65 ⟨.func, 1, 8, [.o .nilFunc]⟩ := ⟨by rw [Tryz.underlying65]; first | trivial | rfl | exact ⟨rfl, rfl⟩, Tryz.t65, .nilFunc, by kernel_rfl, rfl, rfl, rfl, rfl, rfl, (fun h => by cases h), fun _ => ⟨rfl, rfl⟩⟩
theorem tab66 : tab 66 = ⟨.func, 1, 8, [.o .nilFunc]⟩ := rfl
theorem okT66 : OkTI Tryz.prog 66 ⟨.func, 1, 8, [.o .nilFunc]⟩ := ⟨by rw [Tryz.underlying66]; first | trivial | rfl | exact ⟨rfl, rfl⟩, Tryz.t66, .nilFunc, by kernel_rfl, rfl, rfl, rfl, rfl, rfl, (fun h => by cases h), fun _ => ⟨rfl, rfl⟩⟩
theorem tab67 : tab 67 = ⟨.func, 1, 8, [.o .nilFunc]⟩ := rfl
theorem okT67 : OkTI Tryz.prog 67 ⟨.func, 1, 8, [.o .nilFunc]⟩ := ⟨by rw [Tryz.underlying67]; first | trivial | rfl | exact ⟨rfl, rfl⟩, Tryz.t67, .nilFunc, by kernel_rfl, rfl, rfl, rfl, rfl, rfl, (fun h => by cases h), fun _ => ⟨rfl, rfl⟩⟩
theorem tab68 : tab 68 = ⟨.func, 1, 8, [.o .nilFunc]⟩ := rfl
theorem okT68 : OkTI Tryz.prog 68 ⟨.func, 1, 8, [.o .nilFunc]⟩ := ⟨by rw [Tryz.underlying68]; first | trivial | rfl | exact ⟨rfl, rfl⟩, Tryz.t68, .nilFunc, by kernel_rfl, rfl, rfl, rfl, rfl, rfl, (fun h => by cases h), fun _ => ⟨rfl, rfl⟩⟩
theorem tab69 : tab 69 = ⟨.int .i64, 1, 8, [.i .i64 0]⟩ := rfl
theorem okT69 : OkTI Tryz.prog 69 ⟨.int .i64, 1, 8, [.i .i64 0]⟩ := ⟨by rw [Tryz.underlying69]; first | trivial | rfl | exact ⟨rfl, rfl⟩, Tryz.t69, .int .i64 0, by kernel_rfl, rfl, rfl, rfl, rfl, rfl, (fun h => by cases h), fun _ => ⟨rfl, rfl⟩⟩
theorem tab71 : tab 71 = ⟨.func, 1, 8, [.o .nilFunc]⟩ := rfl
theorem okT71 : OkTI Tryz.prog 71 ⟨.func, 1, 8, [.o .nilFunc]⟩ := ⟨by rw [Tryz.underlying71]; first | trivial | rfl | exact ⟨rfl, rfl⟩, Tryz.t71, .nilFunc, by kernel_rfl, rfl, rfl, rfl, rfl, rfl, (fun h => by cases h), fun _ => ⟨rfl, rfl⟩⟩
theorem tab73 : tab 73 = ⟨.func, 1, 8, [.o .nilFunc]⟩ := rfl
theorem okT73 : OkTI Tryz.prog 73 ⟨.func, 1, 8, [.o .nilFunc]⟩ := ⟨by rw [Tryz.underlying73]; first | trivial | rfl | exact ⟨rfl, rfl⟩, Tryz.t73, .nilFunc, by kernel_rfl, rfl, rfl, rfl, rfl, rfl, (fun h => by cases h), fun _ => ⟨rfl, rfl⟩⟩
theorem tab74 : tab 74 = ⟨.func, 1, 8, [.o .nilFunc]⟩ := rfl
theorem okT74 : OkTI Tryz.prog 74 ⟨.func, 1, 8, [.o .nilFunc]⟩ := ⟨by rw [Tryz.underlying74]; first | trivial | rfl | exact ⟨rfl, rfl⟩, Tryz.t74, .nilFunc, by kernel_rfl, rfl, rfl, rfl, rfl, rfl, (fun h => by cases h), fun _ => ⟨rfl, rfl⟩⟩
theorem tab75 : tab 75 = ⟨.func, 1, 8, [.o .nilFunc]⟩ := rfl
theorem okT75 : OkTI Tryz.prog 75 ⟨.func, 1, 8, [.o .nilFunc]⟩ := ⟨by rw [Tryz.underlying75]; first | trivial | rfl | exact ⟨rfl, rfl⟩, Tryz.t75, .nilFunc, by kernel_rfl, rfl, rfl, rfl, rfl, rfl, (fun h => by cases h), fun _ => ⟨rfl, rfl⟩⟩
theorem tab76 : tab 76 = ⟨.struct [(3, 0), (3, 1), (3, 2), (36, 3), (37, 4)], 5, 56, [.i .i64 0, .i .i64 0, .i .i64 0, .f 0, .nil]⟩ := rfl
theorem okT76 : OkTI Tryz.prog 76 ⟨.struct [(3, 0), (3, 1), (3, 2), (36, 3), (37, 4)], 5, 56, [.i .i64 0, .i .i64 0, .i .i64 0, .f 0, .nil]⟩ := ⟨by rw [Tryz.underlying76]; first | trivial | rfl | exact ⟨rfl, rfl⟩, Tryz.t76, .agg #[.int .i64 0, .int .i64 0, .int .i64 0, .float .f64 0, .slice none 0 0], by kernel_rfl, rfl, rfl, rfl, rfl, rfl, fun _ => ⟨_, rfl⟩, (fun h => by cases h)⟩
theorem tab77 : tab 77 = ⟨.struct [(3, 0), (3, 1), (3, 2), (36, 3), (37, 4)], 5, 56, [.i .i64 0, .i .i64 0, .i .i64 0, .f 0, .nil]⟩ := rfl
theorem okT77 : OkTI Tryz.prog 77 ⟨.struct [(3, 0), (3, 1), (3, 2), (36, 3), (37, 4)], 5, 56, [.i .i64 0, .i .i64 0, .i .i64 0, .f 0, .nil]⟩ := ⟨by rw [Tryz.underlying77]; first | trivial | rfl | exact ⟨rfl, rfl⟩, Tryz.t77, .agg #[.int .i64 0, .int .i64 0, .int .i64 0, .float .f64 0, .slice none 0 0], by kernel_rfl, rfl, rfl, rfl, rfl, rfl, fun _ => ⟨_, rfl⟩, (fun h => by cases h)⟩
theorem tab78 : tab 78 = ⟨.func, 1, 8, [.o .nilFunc]⟩ := rfl
theorem okT78 : OkTI Tryz.prog 78 ⟨.func, 1, 8, [.o .nilFunc]⟩ := ⟨by rw [Tryz.underlying78]; first | trivial | rfl | exact ⟨rfl, rfl⟩, Tryz.t78, .nilFunc, by kernel_rfl, rfl, rfl, rfl, rfl, rfl, (fun h => by cases h), fun _ => ⟨rfl, rfl⟩⟩
theorem tab79 : tab 79 = ⟨.func, 1, 8, [.o .nilFunc]⟩ := rfl
theorem okT79 : OkTI Tryz.prog 79 ⟨.func, 1, 8, [.o .nilFunc]⟩ := ⟨by rw [Tryz.underlying79]; first | trivial | rfl | exact ⟨rfl, rfl⟩, Tryz.t79, .nilFunc, by kernel_rfl, rfl, rfl, rfl, rfl, rfl, (fun h => by cases h), fun _ => ⟨rfl, rfl⟩⟩
theorem tab80 : tab 80 = ⟨.func, 1, 8, [.o .nilFunc]⟩ := rfl
theorem okT80 : OkTI Tryz.prog 80 ⟨.func, 1, 8, [.o .nilFunc]⟩ := ⟨by rw [Tryz.underlying80]; first | trivial | rfl | exact ⟨rfl, rfl⟩, Tryz.t80, .nilFunc, by kernel_rfl, rfl, rfl, rfl, rfl, rfl, (fun h => by cases h), fun _ => ⟨rfl, rfl⟩⟩
theorem tab81 : tab 81 = ⟨.func, 1, 8, [.o .nilFunc]⟩ := rfl
theorem okT81 : OkTI Tryz.prog 81 ⟨.func, 1, 8, [.o .nilFunc]⟩ := ⟨by rw [Tryz.underlying81]; first | trivial | rfl | exact ⟨rfl, rfl⟩, Tryz.t81, .nilFunc, by kernel_rfl, rfl, rfl, rfl, rfl, rfl, (fun h => by cases h), fun _ => ⟨rfl, rfl⟩⟩
theorem tab82 : tab 82 = ⟨.struct [(3, 0), (3, 1), (3, 2), (77, 3)], 8, 80, [.i .i64 0, .i .i64 0, .i .i64 0, .i .i64 0, .i .i64 0, .i .i64 0, .f 0, .nil]⟩ := rfl
theorem okT82 : OkTI Tryz.prog 82 ⟨.struct [(3, 0), (3, 1), (3, 2), (77, 3)], 8, 80, [.i .i64 0, .i .i64 0, .i .i64 0, .i .i64 0, .i .i64 0, .i .i64 0, .f 0, .nil]⟩ := ⟨by rw [Tryz.underlying82]; first | trivial | rfl | exact ⟨rfl, rfl⟩, Tryz.t82, .agg #[.int .i64 0, .int .i64 0, .int .i64 0, .int .i64 0, .int .i64 0, .int .i64 0, .float .f64 0, .slice none 0 0], by kernel_rfl, rfl, rfl, rfl, rfl, rfl, fun _ => ⟨_, rfl⟩, (fun h => by cases h)⟩
theorem tab83 : tab 83 = ⟨.struct [(3, 0), (3, 1), (3, 2), (77, 3)], 8, 80, [.i .i64 0, .i .i64 0, .i .i64 0, .i .i64 0, .i .i64 0, .i .i64 0, .f 0, .nil]⟩ := rfl
theorem okT83 : OkTI Tryz.prog 83 ⟨.struct [(3, 0), (3, 1), (3, 2), (77, 3)], 8, 80, [.i .i64 0, .i .i64 0, .i .i64 0, .i .i64 0, .i .i64 0, .i .i64 0, .f 0, .nil]⟩ := ⟨by rw [Tryz.underlying83]; first | trivial | rfl | exact ⟨rfl, rfl⟩, Tryz.t83, .agg #[.int .i64 0, .int .i64 0, .int .i64 0, .int .i64 0, .int .i64 0, .int .i64 0, .float .f64 0, .slice none 0 0], by kernel_rfl, rfl, rfl, rfl, rfl, rfl, fun _ => ⟨_, rfl⟩, (fun h => by cases h)⟩
theorem tab84 : tab 84 = ⟨.func, 1, 8, [.o .nilFunc]⟩ := rfl
theorem okT84 : OkTI Tryz.prog 84 ⟨.func, 1, 8, [.o .nilFunc]⟩ := ⟨by rw [Tryz.underlying84]; first | trivial | rfl | exact ⟨rfl, rfl⟩, Tryz.t84, .nilFunc, by kernel_rfl, rfl, rfl, rfl, rfl, rfl, (fun h => by cases h), fun _ => ⟨rfl, rfl⟩⟩
theorem tab86 : tab 86 = ⟨.func, 1, 8, [.o .nilFunc]⟩ := rfl
theorem okT86 : OkTI Tryz.prog 86 ⟨.func, 1, 8, [.o .nilFunc]⟩ := ⟨by rw [Tryz.underlying86]; first | trivial | rfl | exact ⟨rfl, rfl⟩, Tryz.t86, .nilFunc, by kernel_rfl, rfl, rfl, rfl, rfl, rfl, (fun h => by cases h), fun _ => ⟨rfl, rfl⟩⟩
theorem tab87 : tab 87 = ⟨.func, 1, 8, [.o .nilFunc]⟩ := rfl
theorem okT87 : OkTI Tryz.prog 87 ⟨.func, 1, 8, [.o .nilFunc]⟩ := ⟨by rw [Tryz.underlying87]; first | trivial | rfl | exact ⟨rfl, rfl⟩, Tryz.t87, .nilFunc, by kernel_rfl, rfl, rfl, rfl, rfl, rfl, (fun h => by cases h), fun _ => ⟨rfl, rfl⟩⟩
theorem tab88 : tab 88 = ⟨.func, 1, 8, [.o .nilFunc]⟩ := rfl
theorem okT88 : OkTI Tryz.prog 88 ⟨.func, 1, 8, [.o .nilFunc]⟩ := ⟨by rw [Tryz.underlying88]; first | trivial | rfl | exact ⟨rfl, rfl⟩, Tryz.t88, .nilFunc, by kernel_rfl, rfl, rfl, rfl, rfl, rfl, (fun h => by cases h), fun _ => ⟨rfl, rfl⟩⟩
theorem tab89 : tab 89 = ⟨.func, 1, 8, [.o .nilFunc]⟩ := rfl
theorem okT89 : OkTI Tryz.prog 89 ⟨.func, 1, 8, [.o .nilFunc]⟩ := ⟨by rw [Tryz.underlying89]; first | trivial | rfl | exact ⟨rfl, rfl⟩, Tryz.t89, .nilFunc, by kernel_rfl, rfl, rfl, rfl, rfl, rfl, (fun h => by cases h), fun _ => ⟨rfl, rfl⟩⟩
theorem tab90 : tab 90 = ⟨.func, 1, 8, [.o .nilFunc]⟩ := rfl
theorem okT90 : OkTI Tryz.prog 90 ⟨.func, 1, 8, [.o .nilFunc]⟩ := ⟨by rw [Tryz.underlying90]; first | trivial | rfl | exact ⟨rfl, rfl⟩, Tryz.t90, .nilFunc, by kernel_rfl, rfl, rfl, rfl, rfl, rfl, (fun h => by cases h), fun _ => ⟨rfl, rfl⟩⟩
theorem tab91 : tab 91 = ⟨.func, 1, 8, [.o .nilFunc]⟩ := rfl
theorem okT91 : OkTI Tryz.prog 91 ⟨.func, 1, 8, [.o .nilFunc]⟩ := ⟨by rw [Tryz.underlying91]; first | trivial | rfl | exact ⟨rfl, rfl⟩, Tryz.t91, .nilFunc, by kernel_rfl, rfl, rfl, rfl, rfl, rfl, (fun h => by cases h), fun _ => ⟨rfl, rfl⟩⟩
theorem tab92 : tab 92 = ⟨.func, 1, 8, [.o .nilFunc]⟩ := rfl
theorem okT92 : OkTI Tryz.prog 92 ⟨.func, 1, 8, [.o .nilFunc]⟩ := ⟨by rw [Tryz.underlying92]; first | trivial | rfl | exact ⟨rfl, rfl⟩, Tryz.t92, .nilFunc, by kernel_rfl, rfl, rfl, rfl, rfl, rfl, (fun h => by cases h), fun _ => ⟨rfl, rfl⟩⟩
theorem tab93 : tab 93 = ⟨.struct [(9, 0), (3, 1), (4, 2), (39, 3)], 7, 80, [.s [], .i .i64 0, .b false, .i .i64 0, .i .i64 0, .f 0, .nil]⟩ := rfl
theorem okT93 : OkTI Tryz.prog 93 ⟨.struct [(9, 0), (3, 1), (4, 2), (39, 3)], 7, 80, [.s [], .i .i64 0, .b false, .i .i64 0, .i .i64 0, .f 0, .nil]⟩ := ⟨by rw [Tryz.underlying93]; first | trivial | rfl | exact ⟨rfl, rfl⟩, Tryz.t93, .agg #[.string ⟨#[]⟩, .int .i64 0, .bool false, .int .i64 0, .int .i64 0, .float .f64 0, .slice none 0 0], by kernel_rfl, rfl, rfl, rfl, rfl, rfl, fun _ => ⟨_, rfl⟩, (fun h => by cases h)⟩
theorem tab94 : tab 94 = ⟨.struct [(9, 0), (3, 1), (4, 2), (39, 3)], 7, 80, [.s [], .i .i64 0, .b false, .i .i64 0, .i .i64 0, .f 0, .nil]⟩ := rfl
theorem okT94 : OkTI Tryz.prog 94 ⟨.struct [(9, 0), (3, 1), (4, 2), (39, 3)], 7, 80, [.s [], .i .i64 0, .b false, .i .i64 0, .i .i64 0, .f 0, .nil]⟩ := ⟨by rw [Tryz.underlying94]; first | trivial | rfl | exact ⟨rfl, rfl⟩, Tryz.t94, .agg #[.string ⟨#[]⟩, .int .i64 0, .bool false, .int .i64 0, .int .i64 0, .float .f64 0, .slice none 0 0], by kernel_rfl, rfl, rfl, rfl, rfl, rfl, fun _ => ⟨_, rfl⟩, (fun h => by cases h)⟩
theorem tab95 : tab 95 = ⟨.func, 1, 8, [.o .nilFunc]⟩ := rfl
theorem okT95 : OkTI Tryz.prog 95 ⟨.func, 1, 8, [.o .nilFunc]⟩ := ⟨by rw [Tryz.underlying95]; first | trivial | rfl | exact ⟨rfl, rfl⟩, Tryz.t95, .nilFunc, by kernel_rfl, rfl, rfl, rfl, rfl, rfl, (fun h => by cases h), fun _ => ⟨rfl, rfl⟩⟩
theorem tab97 : tab 97 = ⟨.func, 1, 8, [.o .nilFunc]⟩ := rfl
theorem okT97 : OkTI Tryz.prog 97 ⟨.func, 1, 8, [.o .nilFunc]⟩ := ⟨by rw [Tryz.underlying97]; first | trivial | rfl | exact ⟨rfl, rfl⟩, Tryz.t97, .nilFunc, by kernel_rfl, rfl, rfl, rfl, rfl, rfl, (fun h => by cases h), fun _ => ⟨rfl, rfl⟩⟩
theorem tab98 : tab 98 = ⟨.func, 1, 8, [.o .nilFunc]⟩ := rfl
theorem okT98 : OkTI Tryz.prog 98 ⟨.func, 1, 8, [.o .nilFunc]⟩ := ⟨by rw [Tryz.underlying98]; first | trivial | rfl | exact ⟨rfl, rfl⟩, Tryz.t98, .nilFunc, by kernel_rfl, rfl, rfl, rfl, rfl, rfl, (fun h => by cases h), fun _ => ⟨rfl, rfl⟩⟩
theorem tab99 : tab 99 = ⟨.func, 1, 8, [.o .nilFunc]⟩ := rfl
theorem okT99 : OkTI Tryz.prog 99 ⟨.func, 1, 8, [.o .nilFunc]⟩ := ⟨by rw [Tryz.underlying99]; first | trivial | rfl | exact ⟨rfl, rfl⟩, Tryz.t99, .nilFunc, by kernel_rfl, rfl, rfl, rfl, rfl, rfl, (fun h => by cases h), fun _ => ⟨rfl, rfl⟩⟩
theorem tab100 : tab 100 = ⟨.func, 1, 8, [.o .nilFunc]⟩ := rfl
theorem okT100 : OkTI Tryz.prog 100 ⟨.func, 1, 8, [.o .nilFunc]⟩ := ⟨by rw [Tryz.underlying100]; first | trivial | rfl | exact ⟨rfl, rfl⟩, Tryz.t100, .nilFunc, by kernel_rfl, rfl, rfl, rfl, rfl, rfl, (fun h => by cases h), fun _ => ⟨rfl, rfl⟩⟩
theorem tab101 : tab 101 = ⟨.func, 1, 8, [.o .nilFunc]⟩ := rfl
theorem okT101 : OkTI Tryz.prog 101 ⟨.func, 1, 8, [.o .nilFunc]⟩ := ⟨by rw [Tryz.underlying101]; first | trivial | rfl | exact ⟨rfl, rfl⟩, Tryz.t101, .nilFunc, by kernel_rfl, rfl, rfl, rfl, rfl, rfl, (fun h => by cases h), fun _ => ⟨rfl, rfl⟩⟩
theorem tab102 : tab 102 = ⟨.func, 1, 8, [.o .nilFunc]⟩ := rfl
theorem okT102 : OkTI Tryz.prog 102 ⟨.func, 1, 8, [.o .nilFunc]⟩ := ⟨by rw [Tryz.underlying102]; first | trivial | rfl | exact ⟨rfl, rfl⟩, Tryz.t102, .nilFunc, by kernel_rfl, rfl, rfl, rfl, rfl, rfl, (fun h => by cases h), fun _ => ⟨rfl, rfl⟩⟩
theorem tab103 : tab 103 = ⟨.func, 1, 8, [.o .nilFunc]⟩ := rfl
theorem okT103 : OkTI Tryz.prog 103 ⟨.func, 1, 8, [.o .nilFunc]⟩ := ⟨by rw [Tryz.underlying103]; first | trivial | rfl | exact ⟨rfl, rfl⟩, Tryz.t103, .nilFunc, by kernel_rfl, rfl, rfl, rfl, rfl, rfl, (fun h => by cases h), fun _ => ⟨rfl, rfl⟩⟩
theorem tab104 : tab 104 = ⟨.func, 1, 8, [.o .nilFunc]⟩ := rfl
theorem okT104 : OkTI Tryz.prog 104 ⟨.func, 1, 8, [.o .nilFunc]⟩ := ⟨by rw [Tryz.underlying104]; first | trivial | rfl | exact ⟨rfl, rfl⟩, Tryz.t104, .nilFunc, by kernel_rfl, rfl, rfl, rfl, rfl, rfl, (fun h => by cases h), fun _ => ⟨rfl, rfl⟩⟩
theorem tab105 : tab 105 = ⟨.struct [(3, 0), (77, 1)], 6, 64, [.i .i64 0, .i .i64 0, .i .i64 0, .i .i64 0, .f 0, .nil]⟩ := rfl
theorem okT105 : OkTI Tryz.prog 105 ⟨.struct [(3, 0), (77, 1)], 6, 64, [.i .i64 0, .i .i64 0, .i .i64 0, .i .i64 0, .f 0, .nil]⟩ := ⟨by rw [Tryz.underlying105]; first | trivial | rfl | exact ⟨rfl, rfl⟩, Tryz.t105, .agg #[.int .i64 0, .int .i64 0, .int .i64 0, .int .i64 0, .float .f64 0, .slice none 0 0], by kernel_rfl, rfl, rfl, rfl, rfl, rfl, fun _ => ⟨_, rfl⟩, (fun h => by cases h)⟩
theorem tab106 : tab 106 = ⟨.struct [(3, 0), (77, 1)], 6, 64, [.i .i64 0, .i .i64 0, .i .i64 0, .i .i64 0, .f 0, .nil]⟩ := rfl
theorem okT106 : OkTI Tryz.prog 106 ⟨.struct [(3, 0), (77, 1)], 6, 64, [.i .i64 0, .i .i64 0, .i .i64 0, .i .i64 0, .f 0, .nil]⟩ := ⟨by rw [Tryz.underlying106]; first | trivial | rfl | exact ⟨rfl, rfl⟩, Tryz.t106, .agg #[.int .i64 0, .int .i64 0, .int .i64 0, .int .i64 0, .float .f64 0, .slice none 0 0], by kernel_rfl, rfl, rfl, rfl, rfl, rfl, fun _ => ⟨_, rfl⟩, (fun h => by cases h)⟩
theorem tab107 : tab 107 = ⟨.func, 1, 8, [.o .nilFunc]⟩ := rfl
theorem okT107 : OkTI Tryz.prog 107 ⟨.func, 1, 8, [.o .nilFunc]⟩ := ⟨by rw [Tryz.underlying107]; first | trivial | rfl | exact ⟨rfl, rfl⟩, Tryz.t107, .nilFunc, by kernel_rfl, rfl, rfl, rfl, rfl, rfl, (fun h => by cases h), fun _ => ⟨rfl, rfl⟩⟩
theorem tab108 : tab 108 = ⟨.func, 1, 8, [.o .nilFunc]⟩ := rfl
theorem okT108 : OkTI Tryz.prog 108 ⟨.func, 1, 8, [.o .nilFunc]⟩ := ⟨by rw [Tryz.underlying108]; first | trivial | rfl | exact ⟨rfl, rfl⟩, Tryz.t108, .nilFunc, by kernel_rfl, rfl, rfl, rfl, rfl, rfl, (fun h => by cases h), fun _ => ⟨rfl, rfl⟩⟩
theorem tab109 : tab 109 = ⟨.struct [(30, 0), (30, 1)], 2, 48, [.nil, .nil]⟩ := rfl
theorem okT109 : OkTI Tryz.prog 109 ⟨.struct [(30, 0), (30, 1)], 2, 48, [.nil, .nil]⟩ := ⟨by rw [Tryz.underlying109]; first | trivial | rfl | exact ⟨rfl, rfl⟩, Tryz.t109, .agg #[.slice none 0 0, .slice none 0 0], by kernel_rfl, rfl, rfl, rfl, rfl, rfl, fun _ => ⟨_, rfl⟩, (fun h => by cases h)⟩
theorem tab110 : tab 110 = ⟨.struct [(30, 0), (30, 1)], 2, 48, [.nil, .nil]⟩ := rfl
theorem okT110 : OkTI Tryz.prog 110 ⟨.struct [(30, 0), (30, 1)], 2, 48, [.nil, .nil]⟩ := ⟨by rw [Tryz.underlying110]; first | trivial | rfl | exact ⟨rfl, rfl⟩, Tryz.t110, .agg #[.slice none 0 0, .slice none 0 0], by kernel_rfl, rfl, rfl, rfl, rfl, rfl, fun _ => ⟨_, rfl⟩, (fun h => by cases h)⟩
theorem tab111 : tab 111 = ⟨.func, 1, 8, [.o .nilFunc]⟩ := rfl
theorem okT111 : OkTI Tryz.prog 111 ⟨.func, 1, 8, [.o .nilFunc]⟩ := ⟨by rw [Tryz.underlying111]; first | trivial | rfl | exact ⟨rfl, rfl⟩, Tryz.t111, .nilFunc, by kernel_rfl, rfl, rfl, rfl, rfl, rfl, (fun h => by cases h), fun _ => ⟨rfl, rfl⟩⟩
theorem tab112 : tab 112 = ⟨.func, 1, 8, [.o .nilFunc]⟩ := rfl
theorem okT112 : OkTI Tryz.prog 112 ⟨.func, 1, 8, [.o .nilFunc]⟩ := ⟨by rw [Tryz.underlying112]; first | trivial | rfl | exact ⟨rfl, rfl⟩, Tryz.t112, .nilFunc, by kernel_rfl, rfl, rfl, rfl, rfl, rfl, (fun h => by cases h), fun _ => ⟨rfl, rfl⟩⟩
theorem tab113 : tab 113 = ⟨.func, 1, 8, [.o .nilFunc]⟩ := rfl
theorem okT113 : OkTI Tryz.prog 113 ⟨.func, 1, 8, [.o .nilFunc]⟩ := ⟨by rw [Tryz.underlying113]; first | trivial | rfl | exact ⟨rfl, rfl⟩, Tryz.t113, .nilFunc, by kernel_rfl, rfl, rfl, rfl, rfl, rfl, (fun h => by cases h), fun _ => ⟨rfl, rfl⟩⟩
theorem tab114 : tab 114 = ⟨.func, 1, 8, [.o .nilFunc]⟩ := rfl
theorem okT114 : OkTI Tryz.prog 114 ⟨.func, 1, 8, [.o .nilFunc]⟩ := ⟨by rw [Tryz.underlying114]; first | trivial | rfl | exact ⟨rfl, rfl⟩, Tryz.t114, .nilFunc, by kernel_rfl, rfl, rfl, rfl, rfl, rfl, (fun h => by cases h), fun _ => ⟨rfl, rfl⟩⟩
theorem tab115 : tab 115 = ⟨.func, 1, 8, [.o .nilFunc]⟩ := rfl
theorem okT115 : OkTI Tryz.prog 115 ⟨.func, 1, 8, [.o .nilFunc]⟩ := ⟨by rw [Tryz.underlying115]; first | trivial | rfl | exact ⟨rfl, rfl⟩, Tryz.t115, .nilFunc, by kernel_rfl, rfl, rfl, rfl, rfl, rfl, (fun h => by cases h), fun _ => ⟨rfl, rfl⟩⟩
theorem tab116 : tab 116 = ⟨.func, 1, 8, [.o .nilFunc]⟩ := rfl
theorem okT116 : OkTI Tryz.prog 116 ⟨.func, 1, 8, [.o .nilFunc]⟩ := ⟨by rw [Tryz.underlying116]; first | trivial | rfl | exact ⟨rfl, rfl⟩, Tryz.t116, .nilFunc, by kernel_rfl, rfl, rfl, rfl, rfl, rfl, (fun h => by cases h), fun _ => ⟨rfl, rfl⟩⟩
theorem tab117 : tab 117 = ⟨.func, 1, 8, [.o .nilFunc]⟩ := rfl
theorem okT117 : OkTI Tryz.prog 117 ⟨.func, 1, 8, [.o .nilFunc]⟩ := ⟨by rw [Tryz.underlying117]; first | trivial | rfl | exact ⟨rfl, rfl⟩, Tryz.t117, .nilFunc, by kernel_rfl, rfl, rfl, rfl, rfl, rfl, (fun h => by cases h), fun _ => ⟨rfl, rfl⟩⟩
theorem tab118 : tab 118 = ⟨.func, 1, 8, [.o .nilFunc]⟩ := rfl
theorem okT118 : OkTI Tryz.prog 118 ⟨.func, 1, 8, [.o .nilFunc]⟩ := ⟨by rw [Tryz.underlying118]; first | trivial | rfl | exact ⟨rfl, rfl⟩, Tryz.t118, .nilFunc, by kernel_rfl, rfl, rfl, rfl, rfl, rfl, (fun h => by cases h), fun _ => ⟨rfl, rfl⟩⟩
theorem tab119 : tab 119 = ⟨.func, 1, 8, [.o .nilFunc]⟩ := rfl
theorem okT119 : OkTI Tryz.prog 119 ⟨.func, 1, 8, [.o .nilFunc]⟩ := ⟨by rw [Tryz.underlying119]; first | trivial | rfl | exact ⟨rfl, rfl⟩, Tryz.t119, .nilFunc, by kernel_rfl, rfl, rfl, rfl, rfl, rfl, (fun h => by cases h), fun _ => ⟨rfl, rfl⟩⟩
theorem tab120 : tab 120 = ⟨.func, 1, 8, [.o .nilFunc]⟩ := rfl
theorem okT120 : OkTI Tryz.prog 120 ⟨.func, 1, 8, [.o .nilFunc]⟩ := ⟨by rw [Tryz.underlying120]; first | trivial | rfl | exact ⟨rfl, rfl⟩, Tryz.t120, .nilFunc, by kernel_rfl, rfl, rfl, rfl, rfl, rfl, (fun h => by cases h), fun _ => ⟨rfl, rfl⟩⟩
theorem tab121 : tab 121 = ⟨.func, 1, 8, [.o .nilFunc]⟩ := rfl
theorem okT121 : OkTI Tryz.prog 121 ⟨.func, 1, 8, [.o .nilFunc]⟩ := ⟨by rw [Tryz.underlying121]; first | trivial | rfl | exact ⟨rfl, rfl⟩, Tryz.t121, .nilFunc, by kernel_rfl, rfl, rfl, rfl, rfl, rfl, (fun h => by cases h), fun _ => ⟨rfl, rfl⟩⟩
theorem tab122 : tab 122 = ⟨.ptr 174, 1, 8, [.o (.pointer none)]⟩ := rfl
theorem okT122 : OkTI Tryz.prog 122 ⟨.ptr 174, 1, 8, [.o (.pointer none)]⟩ := ⟨by rw [Tryz.underlying122]; first | trivial | rfl | exact ⟨rfl, rfl⟩, Tryz.t122, .pointer none, by kernel_rfl, rfl, rfl, rfl, rfl, rfl, (fun h => by cases h), fun _ => ⟨rfl, rfl⟩⟩
theorem tab123 : tab 123 = ⟨.func, 1, 8, [.o .nilFunc]⟩ := rfl
theorem okT123 : OkTI Tryz.prog 123 ⟨.func, 1, 8, [.o .nilFunc]⟩ := ⟨by rw [Tryz.underlying123]; first | trivial | rfl | exact ⟨rfl, rfl⟩, Tryz.t123, .nilFunc, by kernel_rfl, rfl, rfl, rfl, rfl, rfl, (fun h => by cases h), fun _ => ⟨rfl, rfl⟩⟩
theorem tab124 : tab 124 = ⟨.func, 1, 8, [.o .nilFunc]⟩ := rfl
theorem okT124 : OkTI Tryz.prog 124 ⟨.func, 1, 8, [.o .nilFunc]⟩ := ⟨by rw [Tryz.underlying124]; first | trivial | rfl | exact ⟨rfl, rfl⟩, Tryz.t124, .nilFunc, by kernel_rfl, rfl, rfl, rfl, rfl, rfl, (fun h => by cases h), fun _ => ⟨rfl, rfl⟩⟩
theorem tab125 : tab 125 = ⟨.func, 1, 8, [.o .nilFunc]⟩ := rfl
theorem okT125 : OkTI Tryz.prog 125 ⟨.func, 1, 8, [.o .nilFunc]⟩ := ⟨by rw [Tryz.underlying125]; first | trivial | rfl | exact ⟨rfl, rfl⟩, Tryz.t125, .nilFunc, by kernel_rfl, rfl, rfl, rfl, rfl, rfl, (fun h => by cases h), fun _ => ⟨rfl, rfl⟩⟩
theorem tab126 : tab 126 = ⟨.func, 1, 8, [.o .nilFunc]⟩ := rfl
theorem okT126 : OkTI Tryz.prog 126 ⟨.func, 1, 8, [.o .nilFunc]⟩ := ⟨by rw [Tryz.underlying126]; first | trivial | rfl | exact ⟨rfl, rfl⟩, Tryz.t126, .nilFunc, by kernel_rfl, rfl, rfl, rfl, rfl, rfl, (fun h => by cases h), fun _ => ⟨rfl, rfl⟩⟩
theorem tab127 : tab 127 = ⟨.func, 1, 8, [.o .nilFunc]⟩ := rfl
theorem okT127 : OkTI Tryz.prog 127 ⟨.func, 1, 8, [.o .nilFunc]⟩ := ⟨by rw [Tryz.underlying127]; first | trivial | rfl | exact ⟨rfl, rfl⟩, Tryz.t127, .nilFunc, by kernel_rfl, rfl, rfl, rfl, rfl, rfl, (fun h => by cases h), fun _ => ⟨rfl, rfl⟩⟩
theorem tab128 : tab 128 = ⟨.func, 1, 8, [.o .nilFunc]⟩ := rfl
theorem okT128 : OkTI Tryz.prog 128 ⟨.func, 1, 8, [.o .nilFunc]⟩ := ⟨by rw [Tryz.underlying128]; first | trivial | rfl | exact ⟨rfl, rfl⟩, Tryz.t128, .nilFunc, by kernel_rfl, rfl, rfl, rfl, rfl, rfl, (fun h => by cases h), fun _ => ⟨rfl, rfl⟩⟩
theorem tab129 : tab 129 = ⟨.ptr 178, 1, 8, [.o (.pointer none)]⟩ := rfl
theorem okT129 : OkTI Tryz.prog 129 ⟨.ptr 178, 1, 8, [.o (.pointer none)]⟩ := ⟨by rw [Tryz.underlying129]; first | trivial | rfl | exact ⟨rfl, rfl⟩, Tryz.t129, .pointer none, by kernel_rfl, rfl, rfl, rfl, rfl, rfl, (fun h => by cases h), fun _ => ⟨rfl, rfl⟩⟩
theorem tab130 : tab 130 = ⟨.func, 1, 8, [.o .nilFunc]⟩ := rfl
theorem okT130 : OkTI Tryz.prog 130 ⟨.func, 1, 8, [.o .nilFunc]⟩ := ⟨by rw [Tryz.underlying130]; first | trivial | rfl | exact ⟨rfl, rfl⟩, Tryz.t130, .nilFunc, by kernel_rfl, rfl, rfl, rfl, rfl, rfl, (fun h => by cases h), fun _ => ⟨rfl, rfl⟩⟩
theorem tab131 : tab 131 = ⟨.func, 1, 8, [.o .nilFunc]⟩ := rfl
theorem okT131 : OkTI Tryz.prog 131 ⟨.func, 1, 8, [.o .nilFunc]⟩ := ⟨by rw [Tryz.underlying131]; first | trivial | rfl | exact ⟨rfl, rfl⟩, Tryz.t131, .nilFunc, by kernel_rfl, rfl, rfl, rfl, rfl, rfl, (fun h => by cases h), fun _ => ⟨rfl, rfl⟩⟩
theorem tab132 : tab 132 = ⟨.func, 1, 8, [.o .nilFunc]⟩ := rfl
theorem okT132 : OkTI Tryz.prog 132 ⟨.func, 1, 8, [.o .nilFunc]⟩ := ⟨by rw [Tryz.underlying132]; first | trivial | rfl | exact ⟨rfl, rfl⟩, Tryz.t132, .nilFunc, by kernel_rfl, rfl, rfl, rfl, rfl, rfl, (fun h => by cases h), fun _ => ⟨rfl, rfl⟩⟩
theorem tab133 : tab 133 = ⟨.func, 1, 8, [.o .nilFunc]⟩ := rfl
theorem okT133 : OkTI Tryz.prog 133 ⟨.func, 1, 8, [.o .nilFunc]⟩ := ⟨by rw [Tryz.underlying133]; first | trivial | rfl | exact ⟨rfl, rfl⟩, Tryz.t133, .nilFunc, by kernel_rfl, rfl, rfl, rfl, rfl, rfl, (fun h => by cases h), fun _ => ⟨rfl, rfl⟩⟩
theorem tab134 : tab 134 = ⟨.func, 1, 8, [.o .nilFunc]⟩ := rfl
theorem okT134 : OkTI Tryz.prog 134 ⟨.func, 1, 8, [.o .nilFunc]⟩ := ⟨by rw [Tryz.underlying134]; first | trivial | rfl | exact ⟨rfl, rfl⟩, Tryz.t134, .nilFunc, by kernel_rfl, rfl, rfl, rfl, rfl, rfl, (fun h => by cases h), fun _ => ⟨rfl, rfl⟩⟩
theorem tab135 : tab 135 = ⟨.ptr 137, 1, 8, [.o (.pointer none)]⟩ := rfl
theorem okT135 : OkTI Tryz.prog 135 ⟨.ptr 137, 1, 8, [.o (.pointer none)]⟩ := ⟨by rw [Tryz.underlying135]; first | trivial | rfl | exact ⟨rfl, rfl⟩, Tryz.t135, .pointer none, by kernel_rfl, rfl, rfl, rfl, rfl, rfl, (fun h => by cases h), fun _ => ⟨rfl, rfl⟩⟩
theorem tab136 : tab 136 = ⟨.struct [(37, 0)], 1, 24, [.nil]⟩ := rfl
theorem okT136 : OkTI Tryz.prog 136 ⟨.struct [(37, 0)], 1, 24, [.nil]⟩ := ⟨by rw [Tryz.underlying136]; first | trivial | rfl | exact ⟨rfl, rfl⟩, Tryz.t136, .agg #[.slice none 0 0], by kernel_rfl, rfl, rfl, rfl, rfl, rfl, fun _ => ⟨_, rfl⟩, (fun h => by cases h)⟩
theorem tab137 : tab 137 = ⟨.struct [(37, 0)], 1, 24, [.nil]⟩ := rfl
theorem okT137 : OkTI Tryz.prog 137 ⟨.struct [(37, 0)], 1, 24, [.nil]⟩ := ⟨by rw [Tryz.underlying137]; first | trivial | rfl | exact ⟨rfl, rfl⟩, Tryz.t137, .agg #[.slice none 0 0], by kernel_rfl, rfl, rfl, rfl, rfl, rfl, fun _ => ⟨_, rfl⟩, (fun h => by cases h)⟩
theorem tab138 : tab 138 = ⟨.func, 1, 8, [.o .nilFunc]⟩ := rfl
theorem okT138 : OkTI Tryz.prog 138 ⟨.func, 1, 8, [.o .nilFunc]⟩ := ⟨by rw [Tryz.underlying138]; first | trivial | rfl | exact ⟨rfl, rfl⟩, Tryz.t138, .nilFunc, by kernel_rfl, rfl, rfl, rfl, rfl, rfl, (fun h => by cases h), fun _ => ⟨rfl, rfl⟩⟩
theorem tab139 : tab 139 = ⟨.ptr 141, 1, 8, [.o (.pointer none)]⟩ := rfl
theorem okT139 : OkTI Tryz.prog 139 ⟨.ptr 141, 1, 8, [.o (.pointer none)]⟩ := ⟨by rw [Tryz.underlying139]; first | trivial | rfl | exact ⟨rfl, rfl⟩, Tryz.t139, .pointer none, by kernel_rfl, rfl, rfl, rfl, rfl, rfl, (fun h => by cases h), fun _ => ⟨rfl, rfl⟩⟩
theorem tab140 : tab 140 = ⟨.struct [(37, 0), (4, 1)], 2, 32, [.nil, .b false]⟩ := rfl
theorem okT140 : OkTI Tryz.prog 140 ⟨.struct [(37, 0), (4, 1)], 2, 32, [.nil, .b false]⟩ := ⟨by rw [Tryz.underlying140]; first | trivial | rfl | exact ⟨rfl, rfl⟩, Tryz.t140, .agg #[.slice none 0 0, .bool false], by kernel_rfl, rfl, rfl, rfl, rfl, rfl, fun _ => ⟨_, rfl⟩, (fun h => by cases h)⟩
theorem tab141 : tab 141 = ⟨.struct [(37, 0), (4, 1)], 2, 32, [.nil, .b false]⟩ := rfl
theorem okT141 : OkTI Tryz.prog 141 ⟨.struct [(37, 0), (4, 1)], 2, 32, [.nil, .b false]⟩ := ⟨by rw [Tryz.underlying141]; first | trivial | rfl | exact ⟨rfl, rfl⟩, Tryz.t141, .agg #[.slice none 0 0, .bool false], by kernel_rfl, rfl, rfl, rfl, rfl, rfl, fun _ => ⟨_, rfl⟩, (fun h => by cases h)⟩
theorem tab142 : tab 142 = ⟨.func, 1, 8, [.o .nilFunc]⟩ := rfl
theorem okT142 : OkTI Tryz.prog 142 ⟨.func, 1, 8, [.o .nilFunc]⟩ := ⟨by rw [Tryz.underlying142]; first | trivial | rfl | exact ⟨rfl, rfl⟩, Tryz.t142, .nilFunc, by kernel_rfl, rfl, rfl, rfl, rfl, rfl, (fun h => by cases h), fun _ => ⟨rfl, rfl⟩⟩
theorem tab143 : tab 143 = ⟨.func, 1, 8, [.o .nilFunc]⟩ := rfl
theorem okT143 : OkTI Tryz.prog 143 ⟨.func, 1, 8, [.o .nilFunc]⟩ := ⟨by rw [Tryz.underlying143]; first | trivial | rfl | exact ⟨rfl, rfl⟩, Tryz.t143, .nilFunc, by kernel_rfl, rfl, rfl, rfl, rfl, rfl, (fun h => by cases h), fun _ => ⟨rfl, rfl⟩⟩
theorem tab144 : tab 144 = ⟨.func, 1, 8, [.o .nilFunc]⟩ := rfl
theorem okT144 : OkTI Tryz.prog 144 ⟨.func, 1, 8, [.o .nilFunc]⟩ := ⟨by rw [Tryz.underlying144]; first | trivial | rfl | exact ⟨rfl, rfl⟩, Tryz.t144, .nilFunc, by kernel_rfl, rfl, rfl, rfl, rfl, rfl, (fun h => by cases h), fun _ => ⟨rfl, rfl⟩⟩
theorem tab145 : tab 145 = ⟨.func, 1, 8, [.o .nilFunc]⟩ := rfl
theorem okT145 : OkTI Tryz.prog 145 ⟨.func, 1, 8, [.o .nilFunc]⟩ := ⟨by rw [Tryz.underlying145]; first | trivial | rfl | exact ⟨rfl, rfl⟩, Tryz.t145, .nilFunc, by kernel_rfl, rfl, rfl, rfl, rfl, rfl, (fun h => by cases h), fun _ => ⟨rfl, rfl⟩⟩
theorem tab146 : tab 146 = ⟨.func, 1, 8, [.o .nilFunc]⟩ := rfl
theorem okT146 : OkTI Tryz.prog 146 ⟨.func, 1, 8, [.o .nilFunc]⟩ := ⟨by rw [Tryz.underlying146]; first | trivial | rfl | exact ⟨rfl, rfl⟩, Tryz.t146, .nilFunc, by kernel_rfl, rfl, rfl, rfl, rfl, rfl, (fun h => by cases h), fun _ => ⟨rfl, rfl⟩⟩
theorem tab147 : tab 147 = ⟨.func, 1, 8, [.o .nilFunc]⟩ := rfl
theorem okT147 : OkTI Tryz.prog 147 ⟨.func, 1, 8, [.o .nilFunc]⟩ := ⟨by rw [Tryz.underlying147]; first | trivial | rfl | exact ⟨rfl, rfl⟩, Tryz.t147, .nilFunc, by kernel_rfl, rfl, rfl, rfl, rfl, rfl, (fun h => by cases h), fun _ => ⟨rfl, rfl⟩⟩
theorem tab149 : tab 149 = ⟨.func, 1, 8, [.o .nilFunc]⟩ := rfl
theorem okT149 : OkTI Tryz.prog 149 ⟨.func, 1, 8, [.o .nilFunc]⟩ := ⟨by rw [Tryz.underlying149]; first | trivial | rfl | exact ⟨rfl, rfl⟩, Tryz.t149, .nilFunc, by kernel_rfl, rfl, rfl, rfl, rfl, rfl, (fun h => by cases h), fun _ => ⟨rfl, rfl⟩⟩
theorem tab150 : tab 150 = ⟨.func, 1, 8, [.o .nilFunc]⟩ := rfl
theorem okT150 : OkTI Tryz.prog 150 ⟨.func, 1, 8, [.o .nilFunc]⟩ := ⟨by rw [Tryz.underlying150]; first | trivial | rfl | exact ⟨rfl, rfl⟩, Tryz.t150, .nilFunc, by kernel_rfl, rfl, rfl, rfl, rfl, rfl, (fun h => by cases h), fun _ => ⟨rfl, rfl⟩⟩
theorem tab151 : tab 151 = ⟨.func, 1, 8, [.o .nilFunc]⟩ := rfl
theorem okT151 : OkTI Tryz.prog 151 ⟨.func, 1, 8, [.o .nilFunc]⟩ := ⟨by rw [Tryz.underlying151]; first | trivial | rfl | exact ⟨rfl, rfl⟩, Tryz.t151, .nilFunc, by kernel_rfl, rfl, rfl, rfl, rfl, rfl, (fun h => by cases h), fun _ => ⟨rfl, rfl⟩⟩
theorem tab152 : tab 152 = ⟨.func, 1, 8, [.o .nilFunc]⟩ := rfl
theorem okT152 : OkTI Tryz.prog 152 ⟨.func, 1, 8, [.o .nilFunc]⟩ := ⟨by rw [Tryz.underlying152]; first | trivial | rfl | exact ⟨rfl, rfl⟩, Tryz.t152, .nilFunc, by kernel_rfl, rfl, rfl, rfl, rfl, rfl, (fun h => by cases h), fun _ => ⟨rfl, rfl⟩⟩
theorem tab153 : tab 153 = ⟨.func, 1, 8, [.o .nilFunc]⟩ := rfl
theorem okT153 : OkTI Tryz.prog 153 ⟨.func, 1, 8, [.o .nilFunc]⟩ := ⟨by rw [Tryz.underlying153]; first | trivial | rfl | exact ⟨rfl, rfl⟩, Tryz.t153, .nilFunc, by kernel_rfl, rfl, rfl, rfl, rfl, rfl, (fun h => by cases h), fun _ => ⟨rfl, rfl⟩⟩
theorem tab154 : tab 154 = ⟨.func, 1, 8, [.o .nilFunc]⟩ := rfl
theorem okT154 : OkTI Tryz.prog 154 ⟨.func, 1, 8, [.o .nilFunc]⟩ := ⟨by rw [Tryz.underlying154]; first | trivial | rfl | exact ⟨rfl, rfl⟩, Tryz.t154, .nilFunc, by kernel_rfl, rfl, rfl, rfl, rfl, rfl, (fun h => by cases h), fun _ => ⟨rfl, rfl⟩⟩
theorem tab155 : tab 155 = ⟨.func, 1, 8, [.o .nilFunc]⟩ := rfl
theorem okT155 : OkTI Tryz.prog 155 ⟨.func, 1, 8, [.o .nilFunc]⟩ := ⟨by rw [Tryz.underlying155]; first | trivial | rfl | exact ⟨rfl, rfl⟩, Tryz.t155, .nilFunc, by kernel_rfl, rfl, rfl, rfl, rfl, rfl, (fun h => by cases h), fun _ => ⟨rfl, rfl⟩⟩
theorem tab156 : tab 156 = ⟨.int .u64, 1, 8, [.i .u64 0]⟩ := rfl
theorem okT156 : OkTI Tryz.prog 156 ⟨.int .u64, 1, 8, [.i .u64 0]⟩ := ⟨by rw [Tryz.underlying156]; first | trivial | rfl | exact ⟨rfl, rfl⟩, Tryz.t156, .int .u64 0, by kernel_rfl, rfl, rfl, rfl, rfl, rfl, (fun h => by cases h), fun _ => ⟨rfl, rfl⟩⟩
theorem tab157 : tab 157 = ⟨.func, 1, 8, [.o .nilFunc]⟩ := rfl
theorem okT157 : OkTI Tryz.prog 157 ⟨.func, 1, 8, [.o .nilFunc]⟩ := ⟨by rw [Tryz.underlying157]; first | trivial | rfl | exact ⟨rfl, rfl⟩, Tryz.t157, .nilFunc, by kernel_rfl, rfl, rfl, rfl, rfl, rfl, (fun h => by cases h), fun _ => ⟨rfl, rfl⟩⟩
theorem tab158 : tab 158 = ⟨.func, 1, 8, [.o .nilFunc]⟩ := rfl
theorem okT158 : OkTI Tryz.prog 158 ⟨.func, 1, 8, [.o .nilFunc]⟩ := ⟨by rw [Tryz.underlying158]; first | trivial | rfl | exact ⟨rfl, rfl⟩, Tryz.t158, .nilFunc, by kernel_rfl, rfl, rfl, rfl, rfl, rfl, (fun h => by cases h), fun _ => ⟨rfl, rfl⟩⟩
theorem tab159 : tab 159 = ⟨.func, 1, 8, [.o .nilFunc]⟩ := rfl
theorem okT159 : OkTI Tryz.prog 159 ⟨.func, 1, 8, [.o .nilFunc]⟩ := ⟨by rw [Tryz.underlying159]; first | trivial | rfl | exact ⟨rfl, rfl⟩, Tryz.t159, .nilFunc, by kernel_rfl, rfl, rfl, rfl, rfl, rfl, (fun h => by cases h), fun _ => ⟨rfl, rfl⟩⟩
theorem tab160 : tab 160 = ⟨.func, 1, 8, [.o .nilFunc]⟩ := rfl
theorem okT160 : OkTI Tryz.prog 160 ⟨.func, 1, 8, [.o .nilFunc]⟩ := ⟨by rw [Tryz.underlying160]; first | trivial | rfl | exact ⟨rfl, rfl⟩, Tryz.t160, .nilFunc, by kernel_rfl, rfl, rfl, rfl, rfl, rfl, (fun h => by cases h), fun _ => ⟨rfl, rfl⟩⟩
theorem tab161 : tab 161 = ⟨.func, 1, 8, [.o .nilFunc]⟩ := rfl
theorem okT161 : OkTI Tryz.prog 161 ⟨.func, 1, 8, [.o .nilFunc]⟩ := ⟨by rw [Tryz.underlying161]; first | trivial | rfl | exact ⟨rfl, rfl⟩, Tryz.t161, .nilFunc, by kernel_rfl, rfl, rfl, rfl, rfl, rfl, (fun h => by cases h), fun _ => ⟨rfl, rfl⟩⟩
theorem tab162 : tab 162 = ⟨.array 6 9, 6, 96, [.s [], .s [], .s [], .s [], .s [], .s []]⟩ := rfl
theorem okT162 : OkTI Tryz.prog 162 ⟨.array 6 9, 6, 96, [.s [], .s [], .s [], .s [], .s [], .s []]⟩ := ⟨by rw [Tryz.underlying162]; first | trivial | rfl | exact ⟨rfl, rfl⟩, Tryz.t162, .agg #[.string ⟨#[]⟩, .string ⟨#[]⟩, .string ⟨#[]⟩, .string ⟨#[]⟩, .string ⟨#[]⟩, .string ⟨#[]⟩], by kernel_rfl, rfl, rfl, rfl, rfl, rfl, fun _ => ⟨_, rfl⟩, (fun h => by cases h)⟩
theorem tab163 : tab 163 = ⟨.func, 1, 8, [.o .nilFunc]⟩ := rfl
theorem okT163 : OkTI Tryz.prog 163 ⟨.func, 1, 8, [.o .nilFunc]⟩ := ⟨by rw [Tryz.underlying163]; first | trivial | rfl | exact ⟨rfl, rfl⟩, Tryz.t163, .nilFunc, by kernel_rfl, rfl, rfl, rfl, rfl, rfl, (fun h => by cases h), fun _ => ⟨rfl, rfl⟩⟩
theorem tab164 : tab 164 = ⟨.func, 1, 8, [.o .nilFunc]⟩ := rfl
theorem okT164 : OkTI Tryz.prog 164 ⟨.func, 1, 8, [.o .nilFunc]⟩ := ⟨by rw [Tryz.underlying164]; first | trivial | rfl | exact ⟨rfl, rfl⟩, Tryz.t164, .nilFunc, by kernel_rfl, rfl, rfl, rfl, rfl, rfl, (fun h => by cases h), fun _ => ⟨rfl, rfl⟩⟩
theorem tab165 : tab 165 = ⟨.func, 1, 8, [.o .nilFunc]⟩ := rfl
theorem okT165 : OkTI Tryz.prog 165 ⟨.func, 1, 8, [.o .nilFunc]⟩ := ⟨by rw [Tryz.underlying165]; first | trivial | rfl | exact ⟨rfl, rfl⟩, Tryz.t165, .nilFunc, by kernel_rfl, rfl, rfl, rfl, rfl, rfl, (fun h => by cases h), fun _ => ⟨rfl, rfl⟩⟩
theorem tab166 : tab 166 = ⟨.int .u64, 1, 8, [.i .u64 0]⟩ := rfl
theorem okT166 : OkTI Tryz.prog 166 ⟨.int .u64, 1, 8, [.i .u64 0]⟩ := ⟨by rw [Tryz.underlying166]; first | trivial | rfl | exact ⟨rfl, rfl⟩, Tryz.t166, .int .u64 0, by kernel_rfl, rfl, rfl, rfl, rfl, rfl, (fun h => by cases h), fun _ => ⟨rfl, rfl⟩⟩
theorem tab167 : tab 167 = ⟨.func, 1, 8, [.o .nilFunc]⟩ := rfl
theorem okT167 : OkTI Tryz.prog 167 ⟨.func, 1, 8, [.o .nilFunc]⟩ := ⟨by rw [Tryz.underlying167]; first | trivial | rfl | exact ⟨rfl, rfl⟩, Tryz.t167, .nilFunc, by kernel_rfl, rfl, rfl, rfl, rfl, rfl, (fun h => by cases h), fun _ => ⟨rfl, rfl⟩⟩
theorem tab168 : tab 168 = ⟨.func, 1, 8, [.o .nilFunc]⟩ := rfl
theorem okT168 : OkTI Tryz.prog 168 ⟨.func, 1, 8, [.o .nilFunc]⟩ := ⟨by rw [Tryz.underlying168]; first | trivial | rfl | exact ⟨rfl, rfl⟩, Tryz.t168, .nilFunc, by kernel_rfl, rfl, rfl, rfl, rfl, rfl, (fun h => by cases h), fun _ => ⟨rfl, rfl⟩⟩
theorem tab169 : tab 169 = ⟨.func, 1, 8, [.o .nilFunc]⟩ := rfl
theorem okT169 : OkTI Tryz.prog 169 ⟨.func, 1, 8, [.o .nilFunc]⟩ := ⟨by rw [Tryz.underlying169]; first | trivial | rfl | exact ⟨rfl, rfl⟩, Tryz.t169, .nilFunc, by kernel_rfl, rfl, rfl, rfl, rfl, rfl, (fun h => by cases h), fun _ => ⟨rfl, rfl⟩⟩
theorem tab170 : tab 170 = ⟨.func, 1, 8, [.o .nilFunc]⟩ := rfl
theorem okT170 : OkTI Tryz.prog 170 ⟨.func, 1, 8, [.o .nilFunc]⟩ := ⟨by rw [Tryz.underlying170]; first | trivial | rfl | exact ⟨rfl, rfl⟩, Tryz.t170, .nilFunc, by kernel_rfl, rfl, rfl, rfl, rfl, rfl, (fun h => by cases h), fun _ => ⟨rfl, rfl⟩⟩
theorem tab171 : tab 171 = ⟨.array 12 36, 12, 96, [.f 0, .f 0, .f 0, .f 0, .f 0, .f 0, .f 0, .f 0, .f 0, .f 0, .f 0, .f 0]⟩ := rfl
theorem okT171 : OkTI Tryz.prog 171 ⟨.array 12 36, 12, 96, [.f 0, .f 0, .f 0, .f 0, .f 0, .f 0, .f 0, .f 0, .f 0, .f 0, .f 0, .f 0]⟩ := ⟨by rw [Tryz.underlying171]; first | trivial | rfl | exact ⟨rfl, rfl⟩, Tryz.t171, .agg #[.float .f64 0, .float .f64 0, .float .f64 0, .float .f64 0, .float .f64 0, .float .f64 0, .float .f64 0, .float .f64 0, .float .f64 0, .float .f64 0, .float .f64 0, .float .f64 0], by kernel_rfl, rfl, rfl, rfl, rfl, rfl, fun _ => ⟨_, rfl⟩, (fun h => by cases h)⟩
theorem tab172 : tab 172 = ⟨.func, 1, 8, [.o .nilFunc]⟩ := rfl
theorem okT172 : OkTI Tryz.prog 172 ⟨.func, 1, 8, [.o .nilFunc]⟩ := ⟨by rw [Tryz.underlying172]; first | trivial | rfl | exact ⟨rfl, rfl⟩, Tryz.t172, .nilFunc, by kernel_rfl, rfl, rfl, rfl, rfl, rfl, (fun h => by cases h), fun _ => ⟨rfl, rfl⟩⟩
theorem tab173 : tab 173 = ⟨.struct [(37, 0)], 1, 24, [.nil]⟩ := rfl
theorem okT173 : OkTI Tryz.prog 173 ⟨.struct [(37, 0)], 1, 24, [.nil]⟩ := ⟨by rw [Tryz.underlying173]; first | trivial | rfl | exact ⟨rfl, rfl⟩, Tryz.t173, .agg #[.slice none 0 0], by kernel_rfl, rfl, rfl, rfl, rfl, rfl, fun _ => ⟨_, rfl⟩, (fun h => by cases h)⟩
theorem tab174 : tab 174 = ⟨.struct [(37, 0)], 1, 24, [.nil]⟩ := rfl
theorem okT174 : OkTI Tryz.prog 174 ⟨.struct [(37, 0)], 1, 24, [.nil]⟩ := ⟨by rw [Tryz.underlying174]; first | trivial | rfl | exact ⟨rfl, rfl⟩, Tryz.t174, .agg #[.slice none 0 0], by kernel_rfl, rfl, rfl, rfl, rfl, rfl, fun _ => ⟨_, rfl⟩, (fun h => by cases h)⟩
theorem tab175 : tab 175 = ⟨.func, 1, 8, [.o .nilFunc]⟩ := rfl
theorem okT175 : OkTI Tryz.prog 175 ⟨.func, 1, 8, [.o .nilFunc]⟩ := ⟨by rw [Tryz.underlying175]; first | trivial | rfl | exact ⟨rfl, rfl⟩, Tryz.t175, .nilFunc, by kernel_rfl, rfl, rfl, rfl, rfl, rfl, (fun h => by cases h), fun _ => ⟨rfl, rfl⟩⟩
theorem tab176 : tab 176 = ⟨.func, 1, 8, [.o .nilFunc]⟩ := rfl
theorem okT176 : OkTI Tryz.prog 176 ⟨.func, 1, 8, [.o .nilFunc]⟩ := ⟨by rw [Tryz.underlying176]; first | trivial | rfl | exact ⟨rfl, rfl⟩, Tryz.t176, .nilFunc, by kernel_rfl, rfl, rfl, rfl, rfl, rfl, (fun h => by cases h), fun _ => ⟨rfl, rfl⟩⟩
theorem tab177 : tab 177 = ⟨.struct [(37, 0), (4, 1)], 2, 32, [.nil, .b false]⟩ := rfl
theorem okT177 : OkTI Tryz.prog 177 ⟨.struct [(37, 0), (4, 1)], 2, 32, [.nil, .b false]⟩ := ⟨by rw [Tryz.underlying177]; first | trivial | rfl | exact ⟨rfl, rfl⟩, Tryz.t177, .agg #[.slice none 0 0, .bool false], by kernel_rfl, rfl, rfl, rfl, rfl, rfl, fun _ => ⟨_, rfl⟩, (fun h => by cases h)⟩
theorem tab178 : tab 178 = ⟨.struct [(37, 0), (4, 1)], 2, 32, [.nil, .b false]⟩ := rfl
theorem okT178 : OkTI Tryz.prog 178 ⟨.struct [(37, 0), (4, 1)], 2, 32, [.nil, .b false]⟩ := ⟨by rw [Tryz.underlying178]; first | trivial | rfl | exact ⟨rfl, rfl⟩, Tryz.t178, .agg #[.slice none 0 0, .bool false], by kernel_rfl, rfl, rfl, rfl, rfl, rfl, fun _ => ⟨_, rfl⟩, (fun h => by cases h)⟩
theorem tab179 : tab 179 = ⟨.func, 1, 8, [.o .nilFunc]⟩ := rfl
theorem okT179 : OkTI Tryz.prog 179 ⟨.func, 1, 8, [.o .nilFunc]⟩ := ⟨by rw [Tryz.underlying179]; first | trivial | rfl | exact ⟨rfl, rfl⟩, Tryz.t179, .nilFunc, by kernel_rfl, rfl, rfl, rfl, rfl, rfl, (fun h => by cases h), fun _ => ⟨rfl, rfl⟩⟩
theorem tab180 : tab 180 = ⟨.func, 1, 8, [.o .nilFunc]⟩ := rfl
theorem okT180 : OkTI Tryz.prog 180 ⟨.func, 1, 8, [.o .nilFunc]⟩ := ⟨by rw [Tryz.underlying180]; first | trivial | rfl | exact ⟨rfl, rfl⟩, Tryz.t180, .nilFunc, by kernel_rfl, rfl, rfl, rfl, rfl, rfl, (fun h => by cases h), fun _ => ⟨rfl, rfl⟩⟩
theorem tab181 : tab 181 = ⟨.func, 1, 8, [.o .nilFunc]⟩ := rfl
theorem okT181 : OkTI Tryz.prog 181 ⟨.func, 1, 8, [.o .nilFunc]⟩ := ⟨by rw [Tryz.underlying181]; first | trivial | rfl | exact ⟨rfl, rfl⟩, Tryz.t181, .nilFunc, by kernel_rfl, rfl, rfl, rfl, rfl, rfl, (fun h => by cases h), fun _ => ⟨rfl, rfl⟩⟩
theorem tab182 : tab 182 = ⟨.func, 1, 8, [.o .nilFunc]⟩ := rfl
theorem okT182 : OkTI Tryz.prog 182 ⟨.func, 1, 8, [.o .nilFunc]⟩ := ⟨by rw [Tryz.underlying182]; first | trivial | rfl | exact ⟨rfl, rfl⟩, Tryz.t182, .nilFunc, by kernel_rfl, rfl, rfl, rfl, rfl, rfl, (fun h => by cases h), fun _ => ⟨rfl, rfl⟩⟩
theorem tab183 : tab 183 = ⟨.func, 1, 8, [.o .nilFunc]⟩ := rfl
theorem okT183 : OkTI Tryz.prog 183 ⟨.func, 1, 8, [.o .nilFunc]⟩ := ⟨by rw [Tryz.underlying183]; first | trivial | rfl | exact ⟨rfl, rfl⟩, Tryz.t183, .nilFunc, by kernel_rfl, rfl, rfl, rfl, rfl, rfl, (fun h => by cases h), fun _ => ⟨rfl, rfl⟩⟩
theorem tab184 : tab 184 = ⟨.func, 1, 8, [.o .nilFunc]⟩ := rfl
theorem okT184 : OkTI Tryz.prog 184 ⟨.func, 1, 8, [.o .nilFunc]⟩ := ⟨by rw [Tryz.underlying184]; first | trivial | rfl | exact ⟨rfl, rfl⟩, Tryz.t184, .nilFunc, by kernel_rfl, rfl, rfl, rfl, rfl, rfl, (fun h => by cases h), fun _ => ⟨rfl, rfl⟩⟩
theorem tab185 : tab 185 = ⟨.func, 1, 8, [.o .nilFunc]⟩ := rfl
theorem okT185 : OkTI Tryz.prog 185 ⟨.func, 1, 8, [.o .nilFunc]⟩ := ⟨by rw [Tryz.underlying185]; first | trivial | rfl | exact ⟨rfl, rfl⟩, Tryz.t185, .nilFunc, by kernel_rfl, rfl, rfl, rfl, rfl, rfl, (fun h => by cases h), fun _ => ⟨rfl, rfl⟩⟩
theorem tab186 : tab 186 = ⟨.func, 1, 8, [.o .nilFunc]⟩ := rfl
theorem okT186 : OkTI Tryz.prog 186 ⟨.func, 1, 8, [.o .nilFunc]⟩ := ⟨by rw [Tryz.underlying186]; first | trivial | rfl | exact ⟨rfl, rfl⟩, Tryz.t186, .nilFunc, by kernel_rfl, rfl, rfl, rfl, rfl, rfl, (fun h => by cases h), fun _ => ⟨rfl, rfl⟩⟩
theorem tab187 : tab 187 = ⟨.func, 1, 8, [.o .nilFunc]⟩ := rfl
theorem okT187 : OkTI Tryz.prog 187 ⟨.func, 1, 8, [.o .nilFunc]⟩ := ⟨by rw [Tryz.underlying187]; first | trivial | rfl | exact ⟨rfl, rfl⟩, Tryz.t187, .nilFunc, by kernel_rfl, rfl, rfl, rfl, rfl, rfl, (fun h => by cases h), fun _ => ⟨rfl, rfl⟩⟩
theorem tab188 : tab 188 = ⟨.int .i64, 1, 8, [.i .i64 0]⟩ := rfl
theorem okT188 : OkTI Tryz.prog 188 ⟨.int .i64, 1, 8, [.i .i64 0]⟩ := ⟨by rw [Tryz.underlying188]; first | trivial | rfl | exact ⟨rfl, rfl⟩, Tryz.t188, .int .i64 0, by kernel_rfl, rfl, rfl, rfl, rfl, rfl, (fun h => by cases h), fun _ => ⟨rfl, rfl⟩⟩
theorem tab190 : tab 190 = ⟨.func, 1, 8, [.o .nilFunc]⟩ := rfl
theorem okT190 : OkTI Tryz.prog 190 ⟨.func, 1, 8, [.o .nilFunc]⟩ := ⟨by rw [Tryz.underlying190]; first | trivial | rfl | exact ⟨rfl, rfl⟩, Tryz.t190, .nilFunc, by kernel_rfl, rfl, rfl, rfl, rfl, rfl, (fun h => by cases h), fun _ => ⟨rfl, rfl⟩⟩
theorem tab191 : tab 191 = ⟨.func, 1, 8, [.o .nilFunc]⟩ := rfl
theorem okT191 : OkTI Tryz.prog 191 ⟨.func, 1, 8, [.o .nilFunc]⟩ := ⟨by rw [Tryz.underlying191]; first | trivial | rfl | exact ⟨rfl, rfl⟩, Tryz.t191, .nilFunc, by kernel_rfl, rfl, rfl, rfl, rfl, rfl, (fun h => by cases h), fun _ => ⟨rfl, rfl⟩⟩
theorem tab192 : tab 192 = ⟨.func, 1, 8, [.o .nilFunc]⟩ := rfl
theorem okT192 : OkTI Tryz.prog 192 ⟨.func, 1, 8, [.o .nilFunc]⟩ := ⟨by rw [Tryz.underlying192]; first | trivial | rfl | exact ⟨rfl, rfl⟩, Tryz.t192, .nilFunc, by kernel_rfl, rfl, rfl, rfl, rfl, rfl, (fun h => by cases h), fun _ => ⟨rfl, rfl⟩⟩
theorem tab193 : tab 193 = ⟨.func, 1, 8, [.o .nilFunc]⟩ := rfl
theorem okT193 : OkTI Tryz.prog 193 ⟨.func, 1, 8, [.o .nilFunc]⟩ := ⟨by rw [Tryz.underlying193]; first | trivial | rfl | exact ⟨rfl, rfl⟩, Tryz.t193, .nilFunc, by kernel_rfl, rfl, rfl, rfl, rfl, rfl, (fun h => by cases h), fun _ => ⟨rfl, rfl⟩⟩
theorem tab194 : tab 194 = ⟨.func, 1, 8, [.o .nilFunc]⟩ := rfl
theorem okT194 : OkTI Tryz.prog 194 ⟨.func, 1, 8, [.o .nilFunc]⟩ := ⟨by rw [Tryz.underlying194]; first | trivial | rfl | exact ⟨rfl, rfl⟩, Tryz.t194, .nilFunc, by kernel_rfl, rfl, rfl, rfl, rfl, rfl, (fun h => by cases h), fun _ => ⟨rfl, rfl⟩⟩
theorem tab195 : tab 195 = ⟨.int .u32, 1, 4, [.i .u32 0]⟩ := rfl
theorem okT195 : OkTI Tryz.prog 195 ⟨.int .u32, 1, 4, [.i .u32 0]⟩ := ⟨by rw [Tryz.underlying195]; first | trivial | rfl | exact ⟨rfl, rfl⟩, Tryz.t195, .int .u32 0, by kernel_rfl, rfl, rfl, rfl, rfl, rfl, (fun h => by cases h), fun _ => ⟨rfl, rfl⟩⟩
theorem tab196 : tab 196 = ⟨.func, 1, 8, [.o .nilFunc]⟩ := rfl
theorem okT196 : OkTI Tryz.prog 196 ⟨.func, 1, 8, [.o .nilFunc]⟩ := ⟨by rw [Tryz.underlying196]; first | trivial | rfl | exact ⟨rfl, rfl⟩, Tryz.t196, .nilFunc, by kernel_rfl, rfl, rfl, rfl, rfl, rfl, (fun h => by cases h), fun _ => ⟨rfl, rfl⟩⟩
theorem tab197 : tab 197 = ⟨.func, 1, 8, [.o .nilFunc]⟩ := rfl
theorem okT197 : OkTI Tryz.prog 197 ⟨.func, 1, 8, [.o .nilFunc]⟩ := ⟨by rw [Tryz.underlying197]; first | trivial | rfl | exact ⟨rfl, rfl⟩, Tryz.t197, .nilFunc, by kernel_rfl, rfl, rfl, rfl, rfl, rfl, (fun h => by cases h), fun _ => ⟨rfl, rfl⟩⟩
theorem tab198 : tab 198 = ⟨.func, 1, 8, [.o .nilFunc]⟩ := rfl
theorem okT198 : OkTI Tryz.prog 198 ⟨.func, 1, 8, [.o .nilFunc]⟩ := ⟨by rw [Tryz.underlying198]; first | trivial | rfl | exact ⟨rfl, rfl⟩, Tryz.t198, .nilFunc, by kernel_rfl, rfl, rfl, rfl, rfl, rfl, (fun h => by cases h), fun _ => ⟨rfl, rfl⟩⟩
theorem tab199 : tab 199 = ⟨.func, 1, 8, [.o .nilFunc]⟩ := rfl
theorem okT199 : OkTI Tryz.prog 199 ⟨.func, 1, 8, [.o .nilFunc]⟩ := ⟨by rw [Tryz.underlying199]; first | trivial | rfl | exact ⟨rfl, rfl⟩, Tryz.t199, .nilFunc, by kernel_rfl, rfl, rfl, rfl, rfl, rfl, (fun h => by cases h), fun _ => ⟨rfl, rfl⟩⟩
theorem tab200 : tab 200 = ⟨.func, 1, 8, [.o .nilFunc]⟩ := rfl
theorem okT200 : OkTI Tryz.prog 200 ⟨.func, 1, 8, [.o .nilFunc]⟩ := ⟨by rw [Tryz.underlying200]; first | trivial | rfl | exact ⟨rfl, rfl⟩, Tryz.t200, .nilFunc, by kernel_rfl, rfl, rfl, rfl, rfl, rfl, (fun h => by cases h), fun _ => ⟨rfl, rfl⟩⟩
theorem tab201 : tab 201 = ⟨.func, 1, 8, [.o .nilFunc]⟩ := rfl
theorem okT201 : OkTI Tryz.prog 201 ⟨.func, 1, 8, [.o .nilFunc]⟩ := ⟨by rw [Tryz.underlying201]; first | trivial | rfl | exact ⟨rfl, rfl⟩, Tryz.t201, .nilFunc, by kernel_rfl, rfl, rfl, rfl, rfl, rfl, (fun h => by cases h), fun _ => ⟨rfl, rfl⟩⟩
theorem tab202 : tab 202 = ⟨.func, 1, 8, [.o .nilFunc]⟩ := rfl
theorem okT202 : OkTI Tryz.prog 202 ⟨.func, 1, 8, [.o .nilFunc]⟩ := ⟨by rw [Tryz.underlying202]; first | trivial | rfl | exact ⟨rfl, rfl⟩, Tryz.t202, .nilFunc, by kernel_rfl, rfl, rfl, rfl, rfl, rfl, (fun h => by cases h), fun _ => ⟨rfl, rfl⟩⟩
theorem tab203 : tab 203 = ⟨.func, 1, 8, [.o .nilFunc]⟩ := rfl
theorem okT203 : OkTI Tryz.prog 203 ⟨.func, 1, 8, [.o .nilFunc]⟩ := ⟨by rw [Tryz.underlying203]; first | trivial | rfl | exact ⟨rfl, rfl⟩, Tryz.t203, .nilFunc, by kernel_rfl, rfl, rfl, rfl, rfl, rfl, (fun h => by cases h), fun _ => ⟨rfl, rfl⟩⟩
theorem tab204 : tab 204 = ⟨.func, 1, 8, [.o .nilFunc]⟩ := rfl
theorem okT204 : OkTI Tryz.prog 204 ⟨.func, 1, 8, [.o .nilFunc]⟩ := ⟨by rw [Tryz.underlying204]; first | trivial | rfl | exact ⟨rfl, rfl⟩, Tryz.t204, .nilFunc, by kernel_rfl, rfl, rfl, rfl, rfl, rfl, (fun h => by cases h), fun _ => ⟨rfl, rfl⟩⟩
theorem tab205 : tab 205 = ⟨.func, 1, 8, [.o .nilFunc]⟩ := rfl
theorem okT205 : OkTI Tryz.prog 205 ⟨.func, 1, 8, [.o .nilFunc]⟩ := ⟨by rw [Tryz.underlying205]; first | trivial | rfl | exact ⟨rfl, rfl⟩, Tryz.t205, .nilFunc, by kernel_rfl, rfl, rfl, rfl, rfl, rfl, (fun h => by cases h), fun _ => ⟨rfl, rfl⟩⟩
theorem tab206 : tab 206 = ⟨.func, 1, 8, [.o .nilFunc]⟩ := rfl
theorem okT206 : OkTI Tryz.prog 206 ⟨.func, 1, 8, [.o .nilFunc]⟩ := ⟨by rw [Tryz.underlying206]; first | trivial | rfl | exact ⟨rfl, rfl⟩, Tryz.t206, .nilFunc, by kernel_rfl, rfl, rfl, rfl, rfl, rfl, (fun h => by cases h), fun _ => ⟨rfl, rfl⟩⟩
theorem tab207 : tab 207 = ⟨.func, 1, 8, [.o .nilFunc]⟩ := rfl
theorem okT207 : OkTI Tryz.prog 207 ⟨.func, 1, 8, [.o .nilFunc]⟩ := ⟨by rw [Tryz.underlying207]; first | trivial | rfl | exact ⟨rfl, rfl⟩, Tryz.t207, .nilFunc, by kernel_rfl, rfl, rfl, rfl, rfl, rfl, (fun h => by cases h), fun _ => ⟨rfl, rfl⟩⟩
theorem tab208 : tab 208 = ⟨.func, 1, 8, [.o .nilFunc]⟩ := rfl
theorem okT208 : OkTI Tryz.prog 208 ⟨.func, 1, 8, [.o .nilFunc]⟩ := ⟨by rw [Tryz.underlying208]; first | trivial | rfl | exact ⟨rfl, rfl⟩, Tryz.t208, .nilFunc, by kernel_rfl, rfl, rfl, rfl, rfl, rfl, (fun h => by cases h), fun _ => ⟨rfl, rfl⟩⟩
theorem tab209 : tab 209 = ⟨.func, 1, 8, [.o .nilFunc]⟩ := rfl
theorem okT209 : OkTI Tryz.prog 209 ⟨.func, 1, 8, [.o .nilFunc]⟩ := ⟨by rw [Tryz.underlying209]; first | trivial | rfl | exact ⟨rfl, rfl⟩, Tryz.t209, .nilFunc, by kernel_rfl, rfl, rfl, rfl, rfl, rfl, (fun h => by cases h), fun _ => ⟨rfl, rfl⟩⟩
theorem tab210 : tab 210 = ⟨.func, 1, 8, [.o .nilFunc]⟩ := rfl
theorem okT210 : OkTI Tryz.prog 210 ⟨.func, 1, 8, [.o .nilFunc]⟩ := ⟨by rw [Tryz.underlying210]; first | trivial | rfl | exact ⟨rfl, rfl⟩, Tryz.t210, .nilFunc, by kernel_rfl, rfl, rfl, rfl, rfl, rfl, (fun h => by cases h), fun _ => ⟨rfl, rfl⟩⟩
theorem tab211 : tab 211 = ⟨.int .u64, 1, 8, [.i .u64 0]⟩ := rfl
theorem okT211 : OkTI Tryz.prog 211 ⟨.int .u64, 1, 8, [.i .u64 0]⟩ := ⟨by rw [Tryz.underlying211]; first | trivial | rfl | exact ⟨rfl, rfl⟩, Tryz.t211, .int .u64 0, by kernel_rfl, rfl, rfl, rfl, rfl, rfl, (fun h => by cases h), fun _ => ⟨rfl, rfl⟩⟩
theorem tab212 : tab 212 = ⟨.func, 1, 8, [.o .nilFunc]⟩ := rfl
theorem okT212 : OkTI Tryz.prog 212 ⟨.func, 1, 8, [.o .nilFunc]⟩ := ⟨by rw [Tryz.underlying212]; first | trivial | rfl | exact ⟨rfl, rfl⟩, Tryz.t212, .nilFunc, by kernel_rfl, rfl, rfl, rfl, rfl, rfl, (fun h => by cases h), fun _ => ⟨rfl, rfl⟩⟩
theorem tab213 : tab 213 = ⟨.func, 1, 8, [.o .nilFunc]⟩ := rfl
theorem okT213 : OkTI Tryz.prog 213 ⟨.func, 1, 8, [.o .nilFunc]⟩ := ⟨by rw [Tryz.underlying213]; first | trivial | rfl | exact ⟨rfl, rfl⟩, Tryz.t213, .nilFunc, by kernel_rfl, rfl, rfl, rfl, rfl, rfl, (fun h => by cases h), fun _ => ⟨rfl, rfl⟩⟩
theorem tab214 : tab 214 = ⟨.func, 1, 8, [.o .nilFunc]⟩ := rfl
theorem okT214 : OkTI Tryz.prog 214 ⟨.func, 1, 8, [.o .nilFunc]⟩ := ⟨by rw [Tryz.underlying214]; first | trivial | rfl | exact ⟨rfl, rfl⟩, Tryz.t214, .nilFunc, by kernel_rfl, rfl, rfl, rfl, rfl, rfl, (fun h => by cases h), fun _ => ⟨rfl, rfl⟩⟩
theorem tab215 : tab 215 = ⟨.ptr 3, 1, 8, [.o (.pointer none)]⟩ := rfl
theorem okT215 : OkTI Tryz.prog 215 ⟨.ptr 3, 1, 8, [.o (.pointer none)]⟩ := ⟨by rw [Tryz.underlying215]; first | trivial | rfl | exact ⟨rfl, rfl⟩, Tryz.t215, .pointer none, by kernel_rfl, rfl, rfl, rfl, rfl, rfl, (fun h => by cases h), fun _ => ⟨rfl, rfl⟩⟩
theorem tab216 : tab 216 = ⟨.func, 1, 8, [.o .nilFunc]⟩ := rfl
theorem okT216 : OkTI Tryz.prog 216 ⟨.func, 1, 8, [.o .nilFunc]⟩ := ⟨by rw [Tryz.underlying216]; first | trivial | rfl | exact ⟨rfl, rfl⟩, Tryz.t216, .nilFunc, by kernel_rfl, rfl, rfl, rfl, rfl, rfl, (fun h => by cases h), fun _ => ⟨rfl, rfl⟩⟩
theorem tab218 : tab 218 = ⟨.func, 1, 8, [.o .nilFunc]⟩ := rfl
theorem okT218 : OkTI Tryz.prog 218 ⟨.func, 1, 8, [.o .nilFunc]⟩ := ⟨by rw [Tryz.underlying218]; first | trivial | rfl | exact ⟨rfl, rfl⟩, Tryz.t218, .nilFunc, by kernel_rfl, rfl, rfl, rfl, rfl, rfl, (fun h => by cases h), fun _ => ⟨rfl, rfl⟩⟩
theorem tab219 : tab 219 = ⟨.func, 1, 8, [.o .nilFunc]⟩ := rfl
theorem okT219 : OkTI Tryz.prog 219 ⟨.func, 1, 8, [.o .nilFunc]⟩ := ⟨by rw [Tryz.underlying219]; first | trivial | rfl | exact ⟨rfl, rfl⟩, Tryz.t219, .nilFunc, by kernel_rfl, rfl, rfl, rfl, rfl, rfl, (fun h => by cases h), fun _ => ⟨rfl, rfl⟩⟩
theorem tab220 : tab 220 = ⟨.func, 1, 8, [.o .nilFunc]⟩ := rfl
theorem okT220 : OkTI Tryz.prog 220 ⟨.func, 1, 8, [.o .nilFunc]⟩ := ⟨by rw [Tryz.underlying220]; first | trivial | rfl | exact ⟨rfl, rfl⟩, Tryz.t220, .nilFunc, by kernel_rfl, rfl, rfl, rfl, rfl, rfl, (fun h => by cases h), fun _ => ⟨rfl, rfl⟩⟩
theorem tab221 : tab 221 = ⟨.func, 1, 8, [.o .nilFunc]⟩ := rfl
theorem okT221 : OkTI Tryz.prog 221 ⟨.func, 1, 8, [.o .nilFunc]⟩ := ⟨by rw [Tryz.underlying221]; first | trivial | rfl | exact ⟨rfl, rfl⟩, Tryz.t221, .nilFunc, by kernel_rfl, rfl, rfl, rfl, rfl, rfl, (fun h => by cases h), fun _ => ⟨rfl, rfl⟩⟩
theorem tab222 : tab 222 = ⟨.func, 1, 8, [.o .nilFunc]⟩ := rfl
theorem okT222 : OkTI Tryz.prog 222 ⟨.func, 1, 8, [.o .nilFunc]⟩ := ⟨by rw [Tryz.underlying222]; first | trivial | rfl | exact ⟨rfl, rfl⟩, Tryz.t222, .nilFunc, by kernel_rfl, rfl, rfl, rfl, rfl, rfl, (fun h => by cases h), fun _ => ⟨rfl, rfl⟩⟩
theorem tab223 : tab 223 = ⟨.func, 1, 8, [.o .nilFunc]⟩ := rfl
theorem okT223 : OkTI Tryz.prog 223 ⟨.func, 1, 8, [.o .nilFunc]⟩ := ⟨by rw [Tryz.underlying223]; first | trivial | rfl | exact ⟨rfl, rfl⟩, Tryz.t223, .nilFunc, by kernel_rfl, rfl, rfl, rfl, rfl, rfl, (fun h => by cases h), fun _ => ⟨rfl, rfl⟩⟩
theorem tab224 : tab 224 = ⟨.func, 1, 8, [.o .nilFunc]⟩ := rfl
theorem okT224 : OkTI Tryz.prog 224 ⟨.func, 1, 8, [.o .nilFunc]⟩ := ⟨by rw [Tryz.underlying224]; first | trivial | rfl | exact ⟨rfl, rfl⟩, Tryz.t224, .nilFunc, by kernel_rfl, rfl, rfl, rfl, rfl, rfl, (fun h => by cases h), fun _ => ⟨rfl, rfl⟩⟩
theorem tab225 : tab 225 = ⟨.func, 1, 8, [.o .nilFunc]⟩ := rfl
theorem okT225 : OkTI Tryz.prog 225 ⟨.func, 1, 8, [.o .nilFunc]⟩ := ⟨by rw [Tryz.underlying225]; first | trivial | rfl | exact ⟨rfl, rfl⟩, Tryz.t225, .nilFunc, by kernel_rfl, rfl, rfl, rfl, rfl, rfl, (fun h => by cases h), fun _ => ⟨rfl, rfl⟩⟩
theorem tab226 : tab 226 = ⟨.ptr 211, 1, 8, [.o (.pointer none)]⟩ := rfl
theorem okT226 : OkTI Tryz.prog 226 ⟨.ptr 211, 1, 8, [.o (.pointer none)]⟩ := ⟨by rw [Tryz.underlying226]; first | trivial | rfl | exact ⟨rfl, rfl⟩, Tryz.t226, .pointer none, by kernel_rfl, rfl, rfl, rfl, rfl, rfl, (fun h => by cases h), fun _ => ⟨rfl, rfl⟩⟩
theorem tab227 : tab 227 = ⟨.func, 1, 8, [.o .nilFunc]⟩ := rfl
theorem okT227 : OkTI Tryz.prog 227 ⟨.func, 1, 8, [.o .nilFunc]⟩ := ⟨by rw [Tryz.underlying227]; first | trivial | rfl | exact ⟨rfl, rfl⟩, Tryz.t227, .nilFunc, by kernel_rfl, rfl, rfl, rfl, rfl, rfl, (fun h => by cases h), fun _ => ⟨rfl, rfl⟩⟩
theorem tab228 : tab 228 = ⟨.func, 1, 8, [.o .nilFunc]⟩ := rfl
theorem okT228 : OkTI Tryz.prog 228 ⟨.func, 1, 8, [.o .nilFunc]⟩ := ⟨by rw [Tryz.underlying228]; first | trivial | rfl | exact ⟨rfl, rfl⟩, Tryz.t228, .nilFunc, by kernel_rfl, rfl, rfl, rfl, rfl, rfl, (fun h => by cases h), fun _ => ⟨rfl, rfl⟩⟩
theorem tab229 : tab 229 = ⟨.func, 1, 8, [.o .nilFunc]⟩ := rfl
theorem okT229 : OkTI Tryz.prog 229 ⟨.func, 1, 8, [.o .nilFunc]⟩ := ⟨by rw [Tryz.underlying229]; first | trivial | rfl | exact ⟨rfl, rfl⟩, Tryz.t229, .nilFunc, by kernel_rfl, rfl, rfl, rfl, rfl, rfl, (fun h => by cases h), fun _ => ⟨rfl, rfl⟩⟩
theorem tab230 : tab 230 = ⟨.func, 1, 8, [.o .nilFunc]⟩ := rfl
theorem okT230 : OkTI Tryz.prog 230 ⟨.func, 1, 8, [.o .nilFunc]⟩ := ⟨by rw [Tryz.underlying230]; first | trivial | rfl | exact ⟨rfl, rfl⟩, Tryz.t230, .nilFunc, by kernel_rfl, rfl, rfl, rfl, rfl, rfl, (fun h => by cases h), fun _ => ⟨rfl, rfl⟩⟩
theorem tab232 : tab 232 = ⟨.func, 1, 8, [.o .nilFunc]⟩ := rfl
theorem okT232 : OkTI Tryz.prog 232 ⟨.func, 1, 8, [.o .nilFunc]⟩ := ⟨by rw [Tryz.underlying232]; first | trivial | rfl | exact ⟨rfl, rfl⟩, Tryz.t232, .nilFunc, by kernel_rfl, rfl, rfl, rfl, rfl, rfl, (fun h => by cases h), fun _ => ⟨rfl, rfl⟩⟩
theorem tab233 : tab 233 = ⟨.func, 1, 8, [.o .nilFunc]⟩ := rfl
theorem okT233 : OkTI Tryz.prog 233 ⟨.func, 1, 8, [.o .nilFunc]⟩ := ⟨by rw [Tryz.underlying233]; first | trivial | rfl | exact ⟨rfl, rfl⟩, Tryz.t233, .nilFunc, by kernel_rfl, rfl, rfl, rfl, rfl, rfl, (fun h => by cases h), fun _ => ⟨rfl, rfl⟩⟩
theorem tab234 : tab 234 = ⟨.func, 1, 8, [.o .nilFunc]⟩ := rfl
theorem okT234 : OkTI Tryz.prog 234 ⟨.func, 1, 8, [.o .nilFunc]⟩ := ⟨by rw [Tryz.underlying234]; first | trivial | rfl | exact ⟨rfl, rfl⟩, Tryz.t234, .nilFunc, by kernel_rfl, rfl, rfl, rfl, rfl, rfl, (fun h => by cases h), fun _ => ⟨rfl, rfl⟩⟩
theorem tab235 : tab 235 = ⟨.array 256 5, 256, 256, [.i .u8 0, .i .u8 0, .i .u8 0, .i .u8 0, .i .u8 0, .i .u8 0, .i .u8 0, .i .u8 0, .i .u8 0, .i .u8 0, .i .u8 0, .i .u8 0, .i .u8 0, .i .u8 0, .i .u8 0, .i .u8 0, .i .u8 0, .i .u8 0, .i .u8 0, .i .u8 0, .i .u8 0, .i .u8 0, .i .u8 0, .i .u8 0, .i .u8 0, .i .u8 0, .i .u8 0, .i .u8 0, .i .u8 0, .i .u8 0, .i .u8 0, .i .u8 0, .i .u8 0, .i .u8 0, .i .u8 0, .i .u8 0, .i .u8 0, .i .u8 0, .i .u8 0, .i .u8 0, .i .u8 0, .i .u8 0, .i .u8 0, .i .u8 0, .i .u8 0, .i .u8 0, .i .u8 0, .i .u8 0, .i .u8 0, .i .u8 0, .i .u8 0, .i .u8 0, .i .u8 0, .i .u8 0, .i .u8 0, .i .u8 0, .i .u8 0, .i .u8 0, .i .u8 0, .i .u8 0, .i .u8 0, .i .u8 0, .i .u8 0, .i .u8 0, .i .u8 0, .i .u8 0, .i .u8 0, .i .u8 0, .i .u8 0, .i .u8 0, .i .u8 0, .i .u8 0, .i .u8 0, .i .u8 0, .i .u8 0, .i .u8 0, .i .u8 0, .i .u8 0, .i .u8 0, .i .u8 0, .i .u8 0, .i .u8 0, .i .u8 0, .i .u8 0, .i .u8 0, .i .u8 0, .i .u8 0, .i .u8 0, .i .u8 0, .i .u8 0, .i .u8 0, .i .u8 0, .i .u8 0, .i .u8 0, .i .u8 0, .i .u8 0, .i .u8 0, .i .u8 0, .i .u8 0, .i .u8 0, .i .u8 0, .i .u8 0, .i .u8 0, .i .u8 0, .i .u8 0, .i .u8 0, .i .u8 0, .i .u8 0, .i .u8 0, .i .u8 0, .i .u8 0, .i .u8 0, .i .u8 0, .i .u8 0, .i .u8 0, .i .u8 0, .i .u8 0, .i .u8 0, .i .u8 0, .i .u8 0, .i .u8 0, .i .u8 0, .i .u8 0, .i .u8 0, .i .u8 0, .i .u8 0, .i .u8 0, .i .u8 0, .i .u8 0, .i .u8 0, .i .u8 0, .i .u8 0, .i .u8 0, .i .u8 0, .i .u8 0, .i .u8 0, .i .u8 0, .i .u8 0, .i .u8 0, .i .u8 0, .i .u8 0, .i .u8 0, .i .u8 0, .i .u8 0, .i .u8 0, .i .u8 0, .i .u8 0, .i .u8 0, .i .u8 0, .i .u8 0, .i .u8 0, .i .u8 0, .i .u8 0, .i .u8 0, .i .u8 0, .i .u8 0, .i .u8 0, .i .u8 0, .i .u8 0, .i .u8 0, .i .u8 0, .i .u8 0, .i .u8 0, .i .u8 0, .i .u8 0, .i .u8 0, .i .u8 0, .i .u8 0, .i .u8 0, .i .u8 0, .i .u8 0, .i .u8 0, .i .u8 0, .i .u8 0, .i .u8 0, .i .u8 0, .i .u8 0, .i .u8 0, .i .u8 0, .i .u8 0, .i .u8 0, .i .u8 0, .i .u8 0, .i .u8 0, .i .u8 0, .i .u8 0, .i .u8 0, .i .u8 0, .i .u8 0, .i .u8 0, .i .u8 0, .i .u8 0, .i .u8 0, .i .u8 0, .i .u8 0, .i .u8 0, .i .u8 0, .i .u8 0, .i .u8 0, .i .u8 0, .i .u8 0, .i .u8 0, .i .u8 0, .i .u8 0, .i .u8 0, .i .u8 0, .i .u8 0, .i .u8 0, .i .u8 0, .i .u8 0, .i .u8 0, .i .u8 0, .i .u8 0, .i .u8 0, .i .u8 0, .i .u8 0, .i .u8 0, .i .u8 0, .i .u8 0, .i .u8 0, .i .u8 0, .i .u8 0, .i .u8 0, .i .u8 0, .i .u8 0, .i .u8 0, .i .u8 0, .i .u8 0, .i .u8 0, .i .u8 0, .i .u8 0, .i .u8 0, .i .u8 0, .i .u8 0, .i .u8 0, .i .u8 0, .i .u8 0, .i .u8 0, .i .u8 0, .i .u8 0, .i .u8 0, .i .u8 0, .i .u8 0, .i .u8 0, .i .u8 0, .i .u8 0, .i .u8 0, .i .u8 0, .i .u8 0, .i .u8 0, .i .u8 0, .i .u8 0, .i .u8 0, .i .u8 0, .i .u8 0, .i .u8 0]⟩ := rfl
theorem okT235 : OkTI Tryz.prog 235 ⟨.array 256 5, 256, 256, [.i .u8 0, .i .u8 0, .i .u8 0, .i .u8 0, .i .u8 0, .i .u8 0, .i .u8 0, .i .u8 0, .i .u8 0, .i .u8 0, .i .u8 0, .i .u8 0, .i .u8 0, .i .u8 0, .i .u8 0, .i .u8 0, .i .u8 0, .i .u8 0, .i .u8 0, .i .u8 0, .i .u8 0, .i .u8 0, .i .u8 0, .i .u8 0, .i .u8 0, .i .u8 0, .i .u8 0, .i .u8 0, .i .u8 0, .i .u8 0, .i .u8 0, .i .u8 0, .i .u8 0, .i .u8 0, .i .u8 0, .i .u8 0, .i .u8 0, .i .u8 0, .i .u8 0, .i .u8 0, .i .u8 0, .i .u8 0, .i .u8 0, .i .u8 0, .i .u8 0, .i .u8 0, .i .u8 0, .i .u8 0, .i .u8 0, .i .u8 0, .i .u8 0, .i .u8 0, .i .u8 0, .i .u8 0, .i .u8 0, .i .u8 0, .i .u8 0, .i .u8 0, .i .u8 0, .i .u8 0, .i .u8 0, .i .u8 0, .i .u8 0, .i .u8 0, .i .u8 0, .i .u8 0, .i .u8 0, .i .u8 0, .i .u8 0, .i .u8 0, .i .u8 0, .i .u8 0, .i .u8 0, .i .u8 0, .i .u8 0, .i .u8 0, .i .u8 0, .i .u8 0, .i .u8 0, .i .u8 0, .i .u8 0, .i .u8 0, .i .u8 0, .i .u8 0, .i .u8 0, .i .u8 0, .i .u8 0, .i .u8 0, .i .u8 0, .i .u8 0, .i .u8 0, .i .u8 0, .i .u8 0, .i .u8 0, .i .u8 0, .i .u8 0, .i .u8 0, .i .u8 0, .i .u8 0, .i .u8 0, .i .u8 0, .i .u8 0, .i .u8 0, .i .u8 0, .i .u8 0, .i .u8 0, .i .u8 0, .i .u8 0, .i .u8 0, .i .u8 0, .i .u8 0, .i .u8 0, .i .u8 0, .i .u8 0, .i .u8 0, .i .u8 0, .i .u8 0, .i .u8 0, .i .u8 0, .i .u8 0, .i .u8 0, .i .u8 0, .i .u8 0, .i .u8 0, .i .u8 0, .i .u8 0, .i .u8 0, .i .u8 0, .i .u8 0, .i .u8 0, .i .u8 0, .i .u8 0, .i .u8 0, .i .u8 0, .i .u8 0, .i .u8 0, .i .u8 0, .i .u8 0, .i .u8 0, .i .u8 0, .i .u8 0, .i .u8 0, .i .u8 0, .i .u8 0, .i .u8 0, .i .u8 0, .i .u8 0, .i .u8 0, .i .u8 0, .i .u8 0, .i .u8 0, .i .u8 0, .i .u8 0, .i .u8 0, .i .u8 0, .i .u8 0, .i .u8 0, .i .u8 0, .i .u8 0, .i .u8 0, .i .u8 0, .i .u8 0, .i .u8 0, .i .u8 0, .i .u8 0, .i .u8 0, .i .u8 0, .i .u8 0, .i .u8 0, .i .u8 0, .i .u8 0, .i .u8 0, .i .u8 0, .i .u8 0, .i .u8 0, .i .u8 0, .i .u8 0, .i .u8 0, .i .u8 0, .i .u8 0, .i .u8 0, .i .u8 0, .i .u8 0, .i .u8 0, .i .u8 0, .i .u8 0, .i .u8 0, .i .u8 0, .i .u8 0, .i .u8 0, .i .u8 0, .i .u8 0, .i .u8 0, .i .u8 0, .i .u8 0, .i .u8 0, .i .u8 0, .i .u8 0, .i .u8 0, .i .u8 0, .i .u8 0, .i .u8 0, .i .u8 0, .i .u8 0, .i .u8 0, .i .u8 0, .i .u8 0, .i .u8 0, .i .u8 0, .i .u8 0, .i .u8 0, .i .u8 0, .i .u8 0, .i .u8 0, .i .u8 0, .i .u8 0, .i .u8 0, .i .u8 0, .i .u8 0, .i .u8 0, .i .u8 0, .i .u8 0, .i .u8 0, .i .u8 0, .i .u8 0, .i .u8 0, .i .u8 0, .i .u8 0, .i .u8 0, .i .u8 0, .i .u8 0, .i .u8 0, .i .u8 0, .i .u8 0, .i .u8 0, .i .u8 0, .i .u8 0, .i .u8 0, .i .u8 0, .i .u8 0, .i .u8 0, .i .u8 0, .i .u8 0, .i .u8 0, .i .u8 0, .i .u8 0, .i .u8 0, .i .u8 0, .i .u8 0, .i .u8 0, .i .u8 0, .i .u8 0, .i .u8 0, .i .u8 0, .i .u8 0, .i .u8 0]⟩ := ⟨by rw [Tryz.underlying235]; first | trivial | rfl | exact ⟨rfl, rfl⟩, Tryz.t235, .agg #[.int .u8 0, .int .u8 0, .int .u8 0, .int .u8 0, .int .u8 0, .int .u8 0, .int .u8 0, .int .u8 0, .int .u8 0, .int .u8 0, .int .u8 0, .int .u8 0, .int .u8 0, .int .u8 0, .int .u8 0, .int .u8 0, .int .u8 0, .int .u8 0, .int .u8 0, .int .u8 0, .int .u8 0, .int .u8 0, .int .u8 0, .int .u8 0, .int .u8 0, .int .u8 0, .int .u8 0, .int .u8 0, .int .u8 0, .int .u8 0, .int .u8 0, .int .u8 0, .int .u8 0, .int .u8 0, .int .u8 0, .int .u8 0, .int .u8 0, .int .u8 0, .int .u8 0, .int .u8 0, .int .u8 0, .int .u8 0, .int .u8 0, .int .u8 0, .int .u8 0, .int .u8 0, .int .u8 0, .int .u8 0, .int .u8 0, .int .u8 0, .int .u8 0, .int .u8 0, .int .u8 0, .int .u8 0, .int .u8 0, .int .u8 0, .int .u8 0, .int .u8 0, .int .u8 0, .int .u8 0, .int .u8 0, .int .u8 0, .int .u8 0, .int .u8 0, .int .u8 0, .int .u8 0, .int .u8 0, .int .u8 0, .int .u8 0, .int .u8 0, .int .u8 0, .int .u8 0, .int .u8 0, .int .u8 0, .int .u8 0, .int .u8 0, .int .u8 0, .int .u8 0, .int .u8 0, .int .u8 0, .int .u8 0, .int .u8 0, .int .u8 0, .int .u8 0, .int .u8 0, .int .u8 0, .int .u8 0, .int .u8 0, .int .u8 0, .int .u8 0, .int .u8 0, .int .u8 0, .int .u8 0, .int .u8 0, .int .u8 0, .int .u8 0, .int .u8 0, .int .u8 0, .int .u8 0, .int .u8 0, .int .u8 0, .int .u8 0, .int .u8 0, .int .u8 0, .int .u8 0, .int .u8 0, .int .u8 0, .int .u8 0, .int .u8 0, .int .u8 0, .int .u8 0, .int .u8 0, .int .u8 0, .int .u8 0, .int .u8 0, .int .u8 0, .int .u8 0, .int .u8 0, .int .u8 0, .int .u8 0, .int .u8 0, .int .u8 0, .int .u8 0, .int .u8 0, .int .u8 0, .int .u8 0, .int .u8 0, .int .u8 0, .int .u8 0, .int .u8 0, .int .u8 0, .int .u8 0, .int .u8 0, .int .u8 0, .int .u8 0, .int .u8 0, .int .u8 0, .int .u8 0, .int .u8 0, .int .u8 0, .int .u8 0, .int .u8 0, .int .u8 0, .int .u8 0, .int .u8 0, .int .u8 0, .int .u8 0, .int .u8 0, .int .u8 0, .int .u8 0, .int .u8 0, .int .u8 0, .int .u8 0, .int .u8 0, .int .u8 0, .int .u8 0, .int .u8 0, .int .u8 0, .int .u8 0, .int .u8 0, .int .u8 0, .int .u8 0, .int .u8 0, .int .u8 0, .int .u8 0, .int .u8 0, .int .u8 0, .int .u8 0, .int .u8 0, .int .u8 0, .int .u8 0, .int .u8 0, .int .u8 0, .int .u8 0, .int .u8 0, .int .u8 0, .int .u8 0, .int .u8 0, .int .u8 0, .int .u8 0, .int .u8 0, .int .u8 0, .int .u8 0, .int .u8 0, .int .u8 0, .int .u8 0, .int .u8 0, .int .u8 0, .int .u8 0, .int .u8 0, .int .u8 0, .int .u8 0, .int .u8 0, .int .u8 0, .int .u8 0, .int .u8 0, .int .u8 0, .int .u8 0, .int .u8 0, .int .u8 0, .int .u8 0, .int .u8 0, .int .u8 0, .int .u8 0, .int .u8 0, .int .u8 0, .int .u8 0, .int .u8 0, .int .u8 0, .int .u8 0, .int .u8 0, .int .u8 0, .int .u8 0, .int .u8 0, .int .u8 0, .int .u8 0, .int .u8 0, .int .u8 0, .int .u8 0, .int .u8 0, .int .u8 0, .int .u8 0, .int .u8 0, .int .u8 0, .int .u8 0, .int .u8 0, .int .u8 0, .int .u8 0, .int .u8 0, .int .u8 0, .int .u8 0, .int .u8 0, .int .u8 0, .int .u8 0, .int .u8 0, .int .u8 0, .int .u8 0, .int .u8 0, .int .u8 0, .int .u8 0, .int .u8 0, .int .u8 0, .int .u8 0, .int .u8 0, .int .u8 0, .int .u8 0, .int .u8 0, .int .u8 0, .int .u8 0, .int .u8 0, .int .u8 0, .int .u8 0, .int .u8 0, .int .u8 0, .int .u8 0, .int .u8 0], by kernel_rfl, rfl, rfl, rfl, rfl, rfl, fun _ => ⟨_, rfl⟩, (fun h => by cases h)⟩
theorem tab236 : tab 236 = ⟨.struct [(5, 0), (5, 1)], 2, 2, [.i .u8 0, .i .u8 0]⟩ := rfl
theorem okT236 : OkTI Tryz.prog 236 ⟨.struct [(5, 0), (5, 1)], 2, 2, [.i .u8 0, .i .u8 0]⟩ := ⟨by rw [Tryz.underlying236]; first | trivial | rfl | exact ⟨rfl, rfl⟩, Tryz.t236, .agg #[.int .u8 0, .int .u8 0], by kernel_rfl, rfl, rfl, rfl, rfl, rfl, fun _ => ⟨_, rfl⟩, (fun h => by cases h)⟩
theorem tab237 : tab 237 = ⟨.struct [(5, 0), (5, 1)], 2, 2, [.i .u8 0, .i .u8 0]⟩ := rfl
theorem okT237 : OkTI Tryz.prog 237 ⟨.struct [(5, 0), (5, 1)], 2, 2, [.i .u8 0, .i .u8 0]⟩ := ⟨by rw [Tryz.underlying237]; first | trivial | rfl | exact ⟨rfl, rfl⟩, Tryz.t237, .agg #[.int .u8 0, .int .u8 0], by kernel_rfl, rfl, rfl, rfl, rfl, rfl, fun _ => ⟨_, rfl⟩, (fun h => by cases h)⟩
theorem tab238 : tab 238 = ⟨.array 16 237, 32, 32, [.i .u8 0, .i .u8 0, .i .u8 0, .i .u8 0, .i .u8 0, .i .u8 0, .i .u8 0, .i .u8 0, .i .u8 0, .i .u8 0, .i .u8 0, .i .u8 0, .i .u8 0, .i .u8 0, .i .u8 0, .i .u8 0, .i .u8 0, .i .u8 0, .i .u8 0, .i .u8 0, .i .u8 0, .i .u8 0, .i .u8 0, .i .u8 0, .i .u8 0, .i .u8 0, .i .u8 0, .i .u8 0, .i .u8 0, .i .u8 0, .i .u8 0, .i .u8 0]⟩ := rfl
theorem okT238 : OkTI Tryz.prog 238 ⟨.array 16 237, 32, 32, [.i .u8 0, .i .u8 0, .i .u8 0, .i .u8 0, .i .u8 0, .i .u8 0, .i .u8 0, .i .u8 0, .i .u8 0, .i .u8 0, .i .u8 0, .i .u8 0, .i .u8 0, .i .u8 0, .i .u8 0, .i .u8 0, .i .u8 0, .i .u8 0, .i .u8 0, .i .u8 0, .i .u8 0, .i .u8 0, .i .u8 0, .i .u8 0, .i .u8 0, .i .u8 0, .i .u8 0, .i .u8 0, .i .u8 0, .i .u8 0, .i .u8 0, .i .u8 0]⟩ := ⟨by rw [Tryz.underlying238]; first | trivial | rfl | exact ⟨rfl, rfl⟩, Tryz.t238, .agg #[.int .u8 0, .int .u8 0, .int .u8 0, .int .u8 0, .int .u8 0, .int .u8 0, .int .u8 0, .int .u8 0, .int .u8 0, .int .u8 0, .int .u8 0, .int .u8 0, .int .u8 0, .int .u8 0, .int .u8 0, .int .u8 0, .int .u8 0, .int .u8 0, .int .u8 0, .int .u8 0, .int .u8 0, .int .u8 0, .int .u8 0, .int .u8 0, .int .u8 0, .int .u8 0, .int .u8 0, .int .u8 0, .int .u8 0, .int .u8 0, .int .u8 0, .int .u8 0], by kernel_rfl, rfl, rfl, rfl, rfl, rfl, fun _ => ⟨_, rfl⟩, (fun h => by cases h)⟩
theorem tab240 : tab 240 = ⟨.func, 1, 8, [.o .nilFunc]⟩ := rfl
theorem okT240 : OkTI Tryz.prog 240 ⟨.func, 1, 8, [.o .nilFunc]⟩ := ⟨by rw [Tryz.underlying240]; first | trivial | rfl | exact ⟨rfl, rfl⟩, Tryz.t240, .nilFunc, by kernel_rfl, rfl, rfl, rfl, rfl, rfl, (fun h => by cases h), fun _ => ⟨rfl, rfl⟩⟩
theorem tab241 : tab 241 = ⟨.func, 1, 8, [.o .nilFunc]⟩ := rfl
theorem okT241 : OkTI Tryz.prog 241 ⟨.func, 1, 8, [.o .nilFunc]⟩ := ⟨by rw [Tryz.underlying241]; first | trivial | rfl | exact ⟨rfl, rfl⟩, Tryz.t241, .nilFunc, by kernel_rfl, rfl, rfl, rfl, rfl, rfl, (fun h => by cases h), fun _ => ⟨rfl, rfl⟩⟩
theorem tab242 : tab 242 = ⟨.struct [(17, 0), (17, 1), (17, 2), (9, 3)], 4, 40, [.o (.pointer none), .o (.pointer none), .o (.pointer none), .s []]⟩ := rfl
theorem okT242 : OkTI Tryz.prog 242 ⟨.struct [(17, 0), (17, 1), (17, 2), (9, 3)], 4, 40, [.o (.pointer none), .o (.pointer none), .o (.pointer none), .s []]⟩ := ⟨by rw [Tryz.underlying242]; first | trivial | rfl | exact ⟨rfl, rfl⟩, Tryz.t242, .agg #[.pointer none, .pointer none, .pointer none, .string ⟨#[]⟩], by kernel_rfl, rfl, rfl, rfl, rfl, rfl, fun _ => ⟨_, rfl⟩, (fun h => by cases h)⟩
theorem tab243 : tab 243 = ⟨.struct [(17, 0), (17, 1), (17, 2), (9, 3)], 4, 40, [.o (.pointer none), .o (.pointer none), .o (.pointer none), .s []]⟩ := rfl
theorem okT243 : OkTI Tryz.prog 243 ⟨.struct [(17, 0), (17, 1), (17, 2), (9, 3)], 4, 40, [.o (.pointer none), .o (.pointer none), .o (.pointer none), .s []]⟩ := ⟨by rw [Tryz.underlying243]; first | trivial | rfl | exact ⟨rfl, rfl⟩, Tryz.t243, .agg #[.pointer none, .pointer none, .pointer none, .string ⟨#[]⟩], by kernel_rfl, rfl, rfl, rfl, rfl, rfl, fun _ => ⟨_, rfl⟩, (fun h => by cases h)⟩
theorem tab247 : tab 247 = ⟨.int .u8, 1, 1, [.i .u8 0]⟩ := rfl
theorem okT247 : OkTI Tryz.prog 247 ⟨.int .u8, 1, 1, [.i .u8 0]⟩ := ⟨by rw [Tryz.underlying247]; first | trivial | rfl | exact ⟨rfl, rfl⟩, Tryz.t247, .int .u8 0, by kernel_rfl, rfl, rfl, rfl, rfl, rfl, (fun h => by cases h), fun _ => ⟨rfl, rfl⟩⟩
theorem tab248 : tab 248 = ⟨.int .u8, 1, 1, [.i .u8 0]⟩ := rfl
theorem okT248 : OkTI Tryz.prog 248 ⟨.int .u8, 1, 1, [.i .u8 0]⟩ := ⟨by rw [Tryz.underlying248]; first | trivial | rfl | exact ⟨rfl, rfl⟩, Tryz.t248, .int .u8 0, by kernel_rfl, rfl, rfl, rfl, rfl, rfl, (fun h => by cases h), fun _ => ⟨rfl, rfl⟩⟩
theorem tab249 : tab 249 = ⟨.func, 1, 8, [.o .nilFunc]⟩ := rfl
theorem okT249 : OkTI Tryz.prog 249 ⟨.func, 1, 8, [.o .nilFunc]⟩ := ⟨by rw [Tryz.underlying249]; first | trivial | rfl | exact ⟨rfl, rfl⟩, Tryz.t249, .nilFunc, by kernel_rfl, rfl, rfl, rfl, rfl, rfl, (fun h => by cases h), fun _ => ⟨rfl, rfl⟩⟩
theorem tab250 : tab 250 = ⟨.ptr 5, 1, 8, [.o (.pointer none)]⟩ := rfl
theorem okT250 : OkTI Tryz.prog 250 ⟨.ptr 5, 1, 8, [.o (.pointer none)]⟩ := ⟨by rw [Tryz.underlying250]; first | trivial | rfl | exact ⟨rfl, rfl⟩, Tryz.t250, .pointer none, by kernel_rfl, rfl, rfl, rfl, rfl, rfl, (fun h => by cases h), fun _ => ⟨rfl, rfl⟩⟩
theorem tab251 : tab 251 = ⟨.int .i32, 1, 4, [.i .i32 0]⟩ := rfl
theorem okT251 : OkTI Tryz.prog 251 ⟨.int .i32, 1, 4, [.i .i32 0]⟩ := ⟨by rw [Tryz.underlying251]; first | trivial | rfl | exact ⟨rfl, rfl⟩, Tryz.t251, .int .i32 0, by kernel_rfl, rfl, rfl, rfl, rfl, rfl, (fun h => by cases h), fun _ => ⟨rfl, rfl⟩⟩
theorem tab252 : tab 252 = ⟨.int .i32, 1, 4, [.i .i32 0]⟩ := rfl
theorem okT252 : OkTI Tryz.prog 252 ⟨.int .i32, 1, 4, [.i .i32 0]⟩ := ⟨by rw [Tryz.underlying252]; first | trivial | rfl | exact ⟨rfl, rfl⟩, Tryz.t252, .int .i32 0, by kernel_rfl, rfl, rfl, rfl, rfl, rfl, (fun h => by cases h), fun _ => ⟨rfl, rfl⟩⟩
theorem tab253 : tab 253 = ⟨.struct [(12, 0), (12, 1), (195, 2), (247, 3), (5, 4), (5, 5), (248, 6), (249, 7), (250, 8), (251, 9), (252, 10)], 11, 48, [.i .u64 0, .i .u64 0, .i .u32 0, .i .u8 0, .i .u8 0, .i .u8 0, .i .u8 0, .o .nilFunc, .o (.pointer none), .i .i32 0, .i .i32 0]⟩ := rfl
theorem okT253 : OkTI Tryz.prog 253 ⟨.struct [(12, 0), (12, 1), (195, 2), (247, 3), (5, 4), (5, 5), (248, 6), (249, 7), (250, 8), (251, 9), (252, 10)], 11, 48, [.i .u64 0, .i .u64 0, .i .u32 0, .i .u8 0, .i .u8 0, .i .u8 0, .i .u8 0, .o .nilFunc, .o (.pointer none), .i .i32 0, .i .i32 0]⟩ := ⟨by rw [Tryz.underlying253]; first | trivial | rfl | exact ⟨rfl, rfl⟩, Tryz.t253, .agg #[.int .u64 0, .int .u64 0, .int .u32 0, .int .u8 0, .int .u8 0, .int .u8 0, .int .u8 0, .nilFunc, .pointer none, .int .i32 0, .int .i32 0], by kernel_rfl, rfl, rfl, rfl, rfl, rfl, fun _ => ⟨_, rfl⟩, (fun h => by cases h)⟩
theorem tab254 : tab 254 = ⟨.struct [(12, 0), (12, 1), (195, 2), (247, 3), (5, 4), (5, 5), (248, 6), (249, 7), (250, 8), (251, 9), (252, 10)], 11, 48, [.i .u64 0, .i .u64 0, .i .u32 0, .i .u8 0, .i .u8 0, .i .u8 0, .i .u8 0, .o .nilFunc, .o (.pointer none), .i .i32 0, .i .i32 0]⟩ := rfl
theorem okT254 : OkTI Tryz.prog 254 ⟨.struct [(12, 0), (12, 1), (195, 2), (247, 3), (5, 4), (5, 5), (248, 6), (249, 7), (250, 8), (251, 9), (252, 10)], 11, 48, [.i .u64 0, .i .u64 0, .i .u32 0, .i .u8 0, .i .u8 0, .i .u8 0, .i .u8 0, .o .nilFunc, .o (.pointer none), .i .i32 0, .i .i32 0]⟩ := ⟨by rw [Tryz.underlying254]; first | trivial | rfl | exact ⟨rfl, rfl⟩, Tryz.t254, .agg #[.int .u64 0, .int .u64 0, .int .u32 0, .int .u8 0, .int .u8 0, .int .u8 0, .int .u8 0, .nilFunc, .pointer none, .int .i32 0, .int .i32 0], by kernel_rfl, rfl, rfl, rfl, rfl, rfl, fun _ => ⟨_, rfl⟩, (fun h => by cases h)⟩
def AllOK (P : Program) : Nat → List TI → Prop
  | _, [] => True
  | i, t :: l => OkTI P i t ∧ AllOK P (i + 1) l
theorem AllOK.at_ {P : Program} : ∀ {l : List TI} {i j : Nat}, AllOK P i l → OkTI P (i + j) (l.getD j ⟨.no, 0, 0, []⟩)
  | [], _, _, _ => rfl
  | t :: l, i, 0, h => h.1
  | t :: l, i, j + 1, h => by
    have := AllOK.at_ (j := j) h.2
    rw [show i + (j + 1) = i + 1 + j by omega]
    exact this
set_option maxRecDepth 100000 in
theorem allOK : AllOK Tryz.prog 0 tabL := ⟨rfl, okT1, okT2, okT3, okT4, okT5, okT6, okT7, okT8, okT9, okT10, okT11, okT12, okT13, okT14, okT15, okT16, okT17, okT18, okT19, okT20, okT21, okT22, okT23, okT24, okT25, rfl, okT27, okT28, okT29, okT30, rfl, okT32, okT33, okT34, okT35, okT36, okT37, okT38, okT39, rfl, okT41, okT42, okT43, okT44, okT45, okT46, okT47, okT48, okT49, rfl, okT51, okT52, okT53, rfl, okT55, okT56, okT57, okT58, okT59, okT60, okT61, okT62, okT63, okT64, okT65, okT66, okT67, okT68, okT69, rfl, okT71, rfl, okT73, okT74, okT75, okT76, okT77, okT78, okT79, okT80, okT81, okT82, okT83, okT84, rfl, okT86, okT87, okT88, okT89, okT90, okT91, okT92, okT93, okT94, okT95, rfl, okT97, okT98, okT99, okT100, okT101, okT102, okT103, okT104, okT105, okT106, okT107, okT108, okT109, okT110, okT111, okT112, okT113, okT114, okT115, okT116, okT117, okT118, okT119, okT120, okT121, okT122, okT123, okT124, okT125, okT126, okT127, okT128, okT129, okT130, okT131, okT132, okT133, okT134, okT135, okT136, okT137, okT138, okT139, okT140, okT141, okT142, okT143, okT144, okT145, okT146, okT147, rfl, okT149, okT150, okT151, okT152, okT153, okT154, okT155, okT156, okT157, okT158, okT159, okT160, okT161, okT162, okT163, okT164, okT165, okT166, okT167, okT168, okT169, okT170, okT171, okT172, okT173, okT174, okT175, okT176, okT177, okT178, okT179, okT180, okT181, okT182, okT183, okT184, okT185, okT186, okT187, okT188, rfl, okT190, okT191, okT192, okT193, okT194, okT195, okT196, okT197, okT198, okT199, okT200, okT201, okT202, okT203, okT204, okT205, okT206, okT207, okT208, okT209, okT210, okT211, okT212, okT213, okT214, okT215, okT216, rfl, okT218, okT219, okT220, okT221, okT222, okT223, okT224, okT225, okT226, okT227, okT228, okT229, okT230, rfl, okT232, okT233, okT234, okT235, okT236, okT237, okT238, rfl, okT240, okT241, okT242, okT243, rfl, rfl, rfl, okT247, okT248, okT249, okT250, okT251, okT252, okT253, okT254, rfl, trivial⟩
theorem tabOK : TabOK Tryz.prog tab := fun t => by
  have := AllOK.at_ (j := t) allOK
  rwa [Nat.zero_add] at this
theorem hmix : Tryz.prog.follows .mixedOrders = true := by kernel_rfl
attribute [go_sem] tab1 tab2 tab3 tab4 tab5 tab6 tab7 tab8 tab9 tab10 tab11 tab12 tab13 tab14 tab15 tab16 tab17 tab18 tab19 tab20 tab21 tab22 tab23 tab24 tab25 tab27 tab28 tab29 tab30 tab32 tab33 tab34 tab35 tab36 tab37 tab38 tab39 tab41 tab42 tab43 tab44 tab45 tab46 tab47 tab48 tab49 tab51 tab52 tab53 tab55 tab56 tab57 tab58 tab59 tab60 tab61 tab62 tab63 tab64 tab65 tab66 tab67 tab68 tab69 tab71 tab73 tab74 tab75 tab76 tab77 tab78 tab79 tab80 tab81 tab82 tab83 tab84 tab86 tab87 tab88 tab89 tab90 tab91 tab92 tab93 tab94 tab95 tab97 tab98 tab99 tab100 tab101 tab102 tab103 tab104 tab105 tab106 tab107 tab108 tab109 tab110 tab111 tab112 tab113 tab114 tab115 tab116 tab117 tab118 tab119 tab120 tab121 tab122 tab123 tab124 tab125 tab126 tab127 tab128 tab129 tab130 tab131 tab132 tab133 tab134 tab135 tab136 tab137 tab138 tab139 tab140 tab141 tab142 tab143 tab144 tab145 tab146 tab147 tab149 tab150 tab151 tab152 tab153 tab154 tab155 tab156 tab157 tab158 tab159 tab160 tab161 tab162 tab163 tab164 tab165 tab166 tab167 tab168 tab169 tab170 tab171 tab172 tab173 tab174 tab175 tab176 tab177 tab178 tab179 tab180 tab181 tab182 tab183 tab184 tab185 tab186 tab187 tab188 tab190 tab191 tab192 tab193 tab194 tab195 tab196 tab197 tab198 tab199 tab200 tab201 tab202 tab203 tab204 tab205 tab206 tab207 tab208 tab209 tab210 tab211 tab212 tab213 tab214 tab215 tab216 tab218 tab219 tab220 tab221 tab222 tab223 tab224 tab225 tab226 tab227 tab228 tab229 tab230 tab232 tab233 tab234 tab235 tab236 tab237 tab238 tab240 tab241 tab242 tab243 tab247 tab248 tab249 tab250 tab251 tab252 tab253 tab254

end Go.Proofs.YtfpeelbddefhhaaGreatDoor
