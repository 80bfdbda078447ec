
import Derived.Test.YtnafpeohfbglmaaGreatChecked
import Derived.KernelRfl
import Derived.Test.YtnafpeohfbglmaaGreatPb
theorem aq {p:Prop} (h:p:=by kernel_rfl):p:=h
namespace Go.Proofs.YtnafpeohfbglmaaGreat
open Go.bj
def Dh : cg := [
  (3, ⟨.int .i64, 1, 8, .int .i64 0⟩),
  (4, ⟨.bool, 1, 1, .bool false⟩),
  (23, ⟨.aA 3, 1, 24, .slice none 0 0⟩),
  (58, ⟨.struct [(0, 56), (1, 3), (2, 23), (3, 3), (4, 3), (5, 47)], 6, 80, .agg #[.int .i64 0, .int .i64 0, .slice none 0 0, .int .i64 0, .int .i64 0, .slice none 0 0]⟩),
  (29, ⟨.int .i64, 1, 8, .int .i64 0⟩),
  (27, ⟨.struct [(0, 22), (1, 3), (2, 23), (3, 24), (4, 25), (5, 3)], 6, 112, .agg #[.slice none 0 0, .int .i64 0, .slice none 0 0, .slice none 0 0, .slice none 0 0, .int .i64 0]⟩),
  (28, ⟨.aA 69, 1, 24, .slice none 0 0⟩),
  (47, ⟨.aA 58, 1, 24, .slice none 0 0⟩),
  (56, ⟨.int .i64, 1, 8, .int .i64 0⟩),
  (69, ⟨.struct [(0, 3), (1, 3), (2, 3), (3, 23)], 4, 48, .agg #[.int .i64 0, .int .i64 0, .int .i64 0, .slice none 0 0]⟩),
  (60, ⟨.aA 23, 1, 24, .slice none 0 0⟩),
  (104, ⟨.int .u64, 1, 8, .int .u64 0⟩),
  (62, ⟨.struct [(0, 60), (1, 23)], 2, 48, .agg #[.slice none 0 0, .slice none 0 0]⟩),
  (83, ⟨.int .i64, 1, 8, .int .i64 0⟩),
  (122, ⟨.struct [(0, 120), (1, 3)], 2, 16, .agg #[.int .i64 0, .int .i64 0]⟩),
  (231, ⟨.int .u64, 1, 8, .int .u64 0⟩),
  (194, ⟨.struct [(0, 62), (2, 47), (3, 3), (4, 23), (5, 4)], 6, 112, .agg #[.slice none 0 0, .slice none 0 0, .slice none 0 0, .int .i64 0, .slice none 0 0, .bool false]⟩),
  (40, ⟨.aA 122, 1, 24, .slice none 0 0⟩),
  (106, ⟨.arr 2 104, 2, 16, .agg #[.int .u64 0, .int .u64 0]⟩),
  (101, ⟨.ptr 110, 1, 8, .pointer none⟩),
  (39, ⟨.aA 198, 1, 24, .slice none 0 0⟩),
  (22, ⟨.aA 76, 1, 24, .slice none 0 0⟩),
  (180, ⟨.ptr 234, 1, 8, .pointer none⟩),
  (24, ⟨.aA 89, 1, 24, .slice none 0 0⟩),
  (319, ⟨.struct [(0, 3), (1, 3), (2, 317)], 4, 32, .agg #[.int .i64 0, .int .i64 0, .int .i64 0, .int .i64 0]⟩),
  (65, ⟨.aA 4, 1, 24, .slice none 0 0⟩),
  (303, ⟨.int .u64, 1, 8, .int .u64 0⟩),
  (85, ⟨.struct [(0, 83), (1, 3), (2, 23)], 3, 40, .agg #[.int .i64 0, .int .i64 0, .slice none 0 0]⟩),
  (89, ⟨.struct [(0, 87), (1, 3), (2, 58), (8, 3)], 9, 104, .agg #[.int .i64 0, .int .i64 0, .int .i64 0, .int .i64 0, .slice none 0 0, .int .i64 0, .int .i64 0, .slice none 0 0, .int .i64 0]⟩),
  (120, ⟨.int .i64, 1, 8, .int .i64 0⟩),
  (170, ⟨.ptr 211, 1, 8, .pointer none⟩),
  (335, ⟨.ptr 340, 1, 8, .pointer none⟩),
  (25, ⟨.aA 85, 1, 24, .slice none 0 0⟩),
  (76, ⟨.struct [(0, 23), (1, 23), (2, 74)], 3, 72, .agg #[.slice none 0 0, .slice none 0 0, .slice none 0 0]⟩),
  (289, ⟨.struct [(0, 58), (6, 4)], 7, 88, .agg #[.int .i64 0, .int .i64 0, .slice none 0 0, .int .i64 0, .int .i64 0, .slice none 0 0, .bool false]⟩),
  (329, ⟨.int .u32, 1, 4, .int .u32 0⟩),
  (257, ⟨.aA 289, 1, 24, .slice none 0 0⟩),
  (340, ⟨.struct [(0, 338), (3, 231), (4, 231), (5, 4), (6, 4), (7, 23)], 8, 88, .agg #[.int .i64 0, .int .i64 0, .slice none 0 0, .int .u64 0, .int .u64 0, .bool false, .bool false, .slice none 0 0]⟩),
  (107, ⟨.map 3 23, 1, 8, .map none⟩),
  (110, ⟨.struct [(0, 27), (6, 3), (7, 62), (9, 47), (10, 23), (11, 107), (12, 108)], 13, 232, .agg #[.slice none 0 0, .int .i64 0, .slice none 0 0, .slice none 0 0, .slice none 0 0, .int .i64 0, .int .i64 0, .slice none 0 0, .slice none 0 0, .slice none 0 0, .slice none 0 0, .map none, .map none]⟩),
  (363, ⟨.int .u64, 1, 8, .int .u64 0⟩),
  (115, ⟨.iface false, 1, 16, .nilIface⟩),
  (293, ⟨.ptr 314, 1, 8, .pointer none⟩),
  (87, ⟨.int .i64, 1, 8, .int .i64 0⟩),
  (346, ⟨.arr 1 104, 1, 8, .agg #[.int .u64 0]⟩),
  (171, ⟨.ptr 214, 1, 8, .pointer none⟩),
  (198, ⟨.struct [(0, 3), (1, 40)], 2, 32, .agg #[.int .i64 0, .slice none 0 0]⟩),
  (322, ⟨.ptr 327, 1, 8, .pointer none⟩),
  (176, ⟨.ptr 218, 1, 8, .pointer none⟩),
  (273, ⟨.struct [(0, 3), (1, 3)], 2, 16, .agg #[.int .i64 0, .int .i64 0]⟩),
  (211, ⟨.struct [(0, 4), (1, 3), (2, 170), (3, 170), (4, 23), (5, 3), (6, 3)], 7, 72, .agg #[.bool false, .int .i64 0, .pointer none, .pointer none, .slice none 0 0, .int .i64 0, .int .i64 0]⟩),
  (42, ⟨.struct [(0, 39), (1, 3), (2, 40)], 3, 56, .agg #[.slice none 0 0, .int .i64 0, .slice none 0 0]⟩),
  (156, ⟨.struct [(0, 3), (1, 115), (2, 115)], 3, 40, .agg #[.int .i64 0, .nilIface, .nilIface]⟩),
  (214, ⟨.struct [(0, 3), (1, 23), (2, 60), (3, 212)], 4, 80, .agg #[.int .i64 0, .slice none 0 0, .slice none 0 0, .slice none 0 0]⟩),
  (162, ⟨.map 3 3, 1, 8, .map none⟩),
  (74, ⟨.aA 241, 1, 24, .slice none 0 0⟩),
  (234, ⟨.struct [(0, 62), (2, 232)], 65, 552, .agg #[.slice none 0 0, .slice none 0 0, .int .u64 0, .int .u64 0, .int .u64 0, .int .u64 0, .int .u64 0, .int .u64 0, .int .u64 0, .int .u64 0, .int .u64 0, .int .u64 0, .int .u64 0, .int .u64 0, .int .u64 0, .int .u64 0, .int .u64 0, .int .u64 0, .int .u64 0, .int .u64 0, .int .u64 0, .int .u64 0, .int .u64 0, .int .u64 0, .int .u64 0, .int .u64 0, .int .u64 0, .int .u64 0, .int .u64 0, .int .u64 0, .int .u64 0, .int .u64 0, .int .u64 0, .int .u64 0, .int .u64 0, .int .u64 0, .int .u64 0, .int .u64 0, .int .u64 0, .int .u64 0, .int .u64 0, .int .u64 0, .int .u64 0, .int .u64 0, .int .u64 0, .int .u64 0, .int .u64 0, .int .u64 0, .int .u64 0, .int .u64 0, .int .u64 0, .int .u64 0, .int .u64 0, .int .u64 0, .int .u64 0, .int .u64 0, .int .u64 0, .int .u64 0, .int .u64 0, .int .u64 0, .int .u64 0, .int .u64 0, .int .u64 0, .int .u64 0, .int .u64 0]⟩),
  (275, ⟨.iface false, 1, 16, .nilIface⟩),
  (327, ⟨.struct [(0, 60), (1, 325), (2, 107)], 3, 56, .agg #[.slice none 0 0, .slice none 0 0, .map none]⟩),
  (71, ⟨.func, 1, 8, .nilFunc⟩),
  (302, ⟨.map 3 4, 1, 8, .map none⟩),
  (258, ⟨.func, 1, 8, .nilFunc⟩),
  (5, ⟨.int .u8, 1, 1, .int .u8 0⟩),
  (287, ⟨.func, 1, 8, .nilFunc⟩),
  (338, ⟨.struct [(0, 3), (1, 3), (2, 23)], 3, 40, .agg #[.int .i64 0, .int .i64 0, .slice none 0 0]⟩),
  (241, ⟨.struct [(0, 3), (1, 3)], 2, 16, .agg #[.int .i64 0, .int .i64 0]⟩),
  (20, ⟨.iface true, 1, 16, .nilIface⟩),
  (152, ⟨.func, 1, 8, .nilFunc⟩),
  (355, ⟨.int .i64, 1, 8, .int .i64 0⟩),
  (154, ⟨.struct [(0, 23)], 1, 24, .agg #[.slice none 0 0]⟩),
  (212, ⟨.aA 170, 1, 24, .slice none 0 0⟩),
  (251, ⟨.ptr 3, 1, 8, .pointer none⟩),
  (108, ⟨.map 106 115, 1, 8, .map none⟩),
  (98, ⟨.aA 28, 1, 24, .slice none 0 0⟩),
  (161, ⟨.ptr 69, 1, 8, .pointer none⟩),
  (220, ⟨.func, 1, 8, .nilFunc⟩),
  (306, ⟨.func, 1, 8, .nilFunc⟩),
  (163, ⟨.func, 1, 8, .nilFunc⟩),
  (218, ⟨.struct [(0, 27), (6, 62), (8, 216)], 9, 168, .agg #[.slice none 0 0, .int .i64 0, .slice none 0 0, .slice none 0 0, .slice none 0 0, .int .i64 0, .slice none 0 0, .slice none 0 0, .map none]⟩),
  (314, ⟨.struct [(0, 180), (1, 312)], 2, 16, .agg #[.pointer none, .map none]⟩),
  (325, ⟨.aA 346, 1, 24, .slice none 0 0⟩),
  (312, ⟨.map 319 335, 1, 8, .map none⟩),
  (232, ⟨.arr 63 231, 63, 504, .agg #[.int .u64 0, .int .u64 0, .int .u64 0, .int .u64 0, .int .u64 0, .int .u64 0, .int .u64 0, .int .u64 0, .int .u64 0, .int .u64 0, .int .u64 0, .int .u64 0, .int .u64 0, .int .u64 0, .int .u64 0, .int .u64 0, .int .u64 0, .int .u64 0, .int .u64 0, .int .u64 0, .int .u64 0, .int .u64 0, .int .u64 0, .int .u64 0, .int .u64 0, .int .u64 0, .int .u64 0, .int .u64 0, .int .u64 0, .int .u64 0, .int .u64 0, .int .u64 0, .int .u64 0, .int .u64 0, .int .u64 0, .int .u64 0, .int .u64 0, .int .u64 0, .int .u64 0, .int .u64 0, .int .u64 0, .int .u64 0, .int .u64 0, .int .u64 0, .int .u64 0, .int .u64 0, .int .u64 0, .int .u64 0, .int .u64 0, .int .u64 0, .int .u64 0, .int .u64 0, .int .u64 0, .int .u64 0, .int .u64 0, .int .u64 0, .int .u64 0, .int .u64 0, .int .u64 0, .int .u64 0, .int .u64 0, .int .u64 0, .int .u64 0]⟩),
  (253, ⟨.func, 1, 8, .nilFunc⟩),
  (298, ⟨.struct [], 0, 0, .agg #[]⟩),
  (277, ⟨.int .i64, 1, 8, .int .i64 0⟩),
  (291, ⟨.struct [], 0, 0, .agg #[]⟩),
  (368, ⟨.ptr 363, 1, 8, .pointer none⟩),
  (279, ⟨.struct [], 0, 0, .agg #[]⟩),
  (73, ⟨.aA 5, 1, 24, .slice none 0 0⟩),
  (224, ⟨.func, 1, 8, .nilFunc⟩),
  (1, ⟨.func, 1, 8, .nilFunc⟩),
  (280, ⟨.func, 1, 8, .nilFunc⟩),
  (9, ⟨.str, 1, 16, .string ⟨#[]⟩⟩),
  (149, ⟨.func, 1, 8, .nilFunc⟩),
  (166, ⟨.func, 1, 8, .nilFunc⟩),
  (255, ⟨.func, 1, 8, .nilFunc⟩),
  (270, ⟨.func, 1, 8, .nilFunc⟩),
  (311, ⟨.func, 1, 8, .nilFunc⟩),
  (216, ⟨.map 317 4, 1, 8, .map none⟩),
  (100, ⟨.func, 1, 8, .nilFunc⟩),
  (133, ⟨.func, 1, 8, .nilFunc⟩),
  (148, ⟨.func, 1, 8, .nilFunc⟩),
  (165, ⟨.func, 1, 8, .nilFunc⟩),
  (185, ⟨.func, 1, 8, .nilFunc⟩),
  (223, ⟨.func, 1, 8, .nilFunc⟩),
  (254, ⟨.func, 1, 8, .nilFunc⟩),
  (269, ⟨.func, 1, 8, .nilFunc⟩),
  (283, ⟨.func, 1, 8, .nilFunc⟩),
  (317, ⟨.arr 2 3, 2, 16, .agg #[.int .i64 0, .int .i64 0]⟩)]
theorem ak : bL Tryz.prog Dh := Mx _ _ aq
theorem mixed : Tryz.prog.follows .mixedOrders = true := by kernel_rfl
theorem call3 : aW Tryz.prog 3 := aZ Tryz.func3 aq aq
theorem call4 : aW Tryz.prog 4 := aZ Tryz.func4 aq aq
theorem call5 : aW Tryz.prog 5 := aZ Tryz.func5 aq aq
theorem call6 : aW Tryz.prog 6 := aZ Tryz.func6 aq aq
theorem call7 : aW Tryz.prog 7 := aZ Tryz.func7 aq aq
theorem call8 : aW Tryz.prog 8 := aZ Tryz.func8 aq aq
theorem call9 : aW Tryz.prog 9 := aZ Tryz.func9 aq aq
theorem call10 : aW Tryz.prog 10 := aZ Tryz.func10 aq aq
theorem call11 : aW Tryz.prog 11 := aZ Tryz.func11 aq aq
theorem call12 : aW Tryz.prog 12 := aZ Tryz.func12 aq aq
theorem call13 : aW Tryz.prog 13 := aZ Tryz.func13 aq aq
theorem call14 : aW Tryz.prog 14 := aZ Tryz.func14 aq aq
theorem call15 : aW Tryz.prog 15 := aZ Tryz.func15 aq aq
theorem call16 : aW Tryz.prog 16 := aZ Tryz.func16 aq aq
theorem call17 : aW Tryz.prog 17 := aZ Tryz.func17 aq aq
theorem call18 : aW Tryz.prog 18 := aZ Tryz.func18 aq aq
theorem call19 : aW Tryz.prog 19 := aZ Tryz.func19 aq aq
theorem call20 : aW Tryz.prog 20 := aZ Tryz.func20 aq aq
theorem call21 : aW Tryz.prog 21 := aZ Tryz.func21 aq aq
theorem call22 : aW Tryz.prog 22 := aZ Tryz.func22 aq aq
theorem call23 : aW Tryz.prog 23 := aZ Tryz.func23 aq aq
theorem call24 : aW Tryz.prog 24 := aZ Tryz.func24 aq aq
theorem call25 : aW Tryz.prog 25 := aZ Tryz.func25 aq aq
theorem call26 : aW Tryz.prog 26 := aZ Tryz.func26 aq aq
theorem call27 : aW Tryz.prog 27 := aZ Tryz.func27 aq aq
theorem call28 : aW Tryz.prog 28 := aZ Tryz.func28 aq aq
theorem call29 : aW Tryz.prog 29 := aZ Tryz.func29 aq aq
theorem call30 : aW Tryz.prog 30 := aZ Tryz.func30 aq aq
theorem call31 : aW Tryz.prog 31 := aZ Tryz.func31 aq aq
theorem call32 : aW Tryz.prog 32 := aZ Tryz.func32 aq aq
theorem call33 : aW Tryz.prog 33 := aZ Tryz.func33 aq aq
theorem call34 : aW Tryz.prog 34 := aZ Tryz.func34 aq aq
theorem call35 : aW Tryz.prog 35 := aZ Tryz.func35 aq aq
theorem call36 : aW Tryz.prog 36 := aZ Tryz.func36 aq aq
theorem call37 : aW Tryz.prog 37 := aZ Tryz.func37 aq aq
theorem call38 : aW Tryz.prog 38 := aZ Tryz.func38 aq aq
theorem call39 : aW Tryz.prog 39 := aZ Tryz.func39 aq aq
theorem call40 : aW Tryz.prog 40 := aZ Tryz.func40 aq aq
theorem call41 : aW Tryz.prog 41 := aZ Tryz.func41 aq aq
theorem call42 : aW Tryz.prog 42 := aZ Tryz.func42 aq aq
theorem call43 : aW Tryz.prog 43 := aZ Tryz.func43 aq aq
theorem call44 : aW Tryz.prog 44 := aZ Tryz.func44 aq aq
theorem call45 : aW Tryz.prog 45 := aZ Tryz.func45 aq aq
theorem call46 : aW Tryz.prog 46 := aZ Tryz.func46 aq aq
theorem call47 : aW Tryz.prog 47 := aZ Tryz.func47 aq aq
theorem call48 : aW Tryz.prog 48 := aZ Tryz.func48 aq aq
theorem call49 : aW Tryz.prog 49 := aZ Tryz.func49 aq aq
theorem call50 : aW Tryz.prog 50 := aZ Tryz.func50 aq aq
theorem call51 : aW Tryz.prog 51 := aZ Tryz.func51 aq aq
theorem call52 : aW Tryz.prog 52 := aZ Tryz.func52 aq aq
theorem call53 : aW Tryz.prog 53 := aZ Tryz.func53 aq aq
theorem call54 : aW Tryz.prog 54 := aZ Tryz.func54 aq aq
theorem call55 : aW Tryz.prog 55 := aZ Tryz.func55 aq aq
theorem call56 : aW Tryz.prog 56 := aZ Tryz.func56 aq aq
theorem call57 : aW Tryz.prog 57 := aZ Tryz.func57 aq aq
theorem call58 : aW Tryz.prog 58 := aZ Tryz.func58 aq aq
theorem call59 : aW Tryz.prog 59 := aZ Tryz.func59 aq aq
theorem call60 : aW Tryz.prog 60 := aZ Tryz.func60 aq aq
theorem call61 : aW Tryz.prog 61 := aZ Tryz.func61 aq aq
theorem call62 : aW Tryz.prog 62 := aZ Tryz.func62 aq aq
theorem call63 : aW Tryz.prog 63 := aZ Tryz.func63 aq aq
theorem call64 : aW Tryz.prog 64 := aZ Tryz.func64 aq aq
theorem call65 : aW Tryz.prog 65 := aZ Tryz.func65 aq aq
theorem call66 : aW Tryz.prog 66 := aZ Tryz.func66 aq aq
theorem call67 : aW Tryz.prog 67 := aZ Tryz.func67 aq aq
theorem call68 : aW Tryz.prog 68 := aZ Tryz.func68 aq aq
theorem call69 : aW Tryz.prog 69 := aZ Tryz.func69 aq aq
theorem call70 : aW Tryz.prog 70 := aZ Tryz.func70 aq aq
theorem call71 : aW Tryz.prog 71 := aZ Tryz.func71 aq aq
theorem call72 : aW Tryz.prog 72 := aZ Tryz.func72 aq aq
theorem call73 : aW Tryz.prog 73 := aZ Tryz.func73 aq aq
theorem call74 : aW Tryz.prog 74 := aZ Tryz.func74 aq aq
theorem call75 : aW Tryz.prog 75 := aZ Tryz.func75 aq aq
theorem call76 : aW Tryz.prog 76 := aZ Tryz.func76 aq aq
theorem call77 : aW Tryz.prog 77 := aZ Tryz.func77 aq aq
theorem call78 : aW Tryz.prog 78 := aZ Tryz.func78 aq aq
theorem call79 : aW Tryz.prog 79 := aZ Tryz.func79 aq aq
theorem call80 : aW Tryz.prog 80 := aZ Tryz.func80 aq aq
theorem call81 : aW Tryz.prog 81 := aZ Tryz.func81 aq aq
theorem call82 : aW Tryz.prog 82 := aZ Tryz.func82 aq aq
theorem call83 : aW Tryz.prog 83 := aZ Tryz.func83 aq aq
theorem call84 : aW Tryz.prog 84 := aZ Tryz.func84 aq aq
theorem call85 : aW Tryz.prog 85 := aZ Tryz.func85 aq aq
theorem call86 : aW Tryz.prog 86 := aZ Tryz.func86 aq aq
theorem call87 : aW Tryz.prog 87 := aZ Tryz.func87 aq aq
theorem call88 : aW Tryz.prog 88 := aZ Tryz.func88 aq aq
theorem call89 : aW Tryz.prog 89 := aZ Tryz.func89 aq aq
theorem call90 : aW Tryz.prog 90 := aZ Tryz.func90 aq aq
theorem call91 : aW Tryz.prog 91 := aZ Tryz.func91 aq aq
theorem call92 : aW Tryz.prog 92 := aZ Tryz.func92 aq aq
theorem call93 : aW Tryz.prog 93 := aZ Tryz.func93 aq aq
theorem call94 : aW Tryz.prog 94 := aZ Tryz.func94 aq aq
theorem call95 : aW Tryz.prog 95 := aZ Tryz.func95 aq aq
theorem call96 : aW Tryz.prog 96 := aZ Tryz.func96 aq aq
theorem call97 : aW Tryz.prog 97 := aZ Tryz.func97 aq aq
theorem call98 : aW Tryz.prog 98 := aZ Tryz.func98 aq aq
theorem call99 : aW Tryz.prog 99 := aZ Tryz.func99 aq aq
theorem call100 : aW Tryz.prog 100 := aZ Tryz.func100 aq aq
theorem call101 : aW Tryz.prog 101 := aZ Tryz.func101 aq aq
theorem call102 : aW Tryz.prog 102 := aZ Tryz.func102 aq aq
theorem call103 : aW Tryz.prog 103 := aZ Tryz.func103 aq aq
theorem call104 : aW Tryz.prog 104 := aZ Tryz.func104 aq aq
theorem call105 : aW Tryz.prog 105 := aZ Tryz.func105 aq aq
theorem call106 : aW Tryz.prog 106 := aZ Tryz.func106 aq aq
theorem call107 : aW Tryz.prog 107 := aZ Tryz.func107 aq aq
theorem call108 : aW Tryz.prog 108 := aZ Tryz.func108 aq aq
theorem call109 : aW Tryz.prog 109 := aZ Tryz.func109 aq aq
theorem call110 : aW Tryz.prog 110 := aZ Tryz.func110 aq aq
theorem call111 : aW Tryz.prog 111 := aZ Tryz.func111 aq aq
theorem call112 : aW Tryz.prog 112 := aZ Tryz.func112 aq aq
theorem call113 : aW Tryz.prog 113 := aZ Tryz.func113 aq aq
theorem call114 : aW Tryz.prog 114 := aZ Tryz.func114 aq aq
theorem call115 : aW Tryz.prog 115 := aZ Tryz.func115 aq aq
theorem call116 : aW Tryz.prog 116 := aZ Tryz.func116 aq aq
theorem call117 : aW Tryz.prog 117 := aZ Tryz.func117 aq aq
theorem call118 : aW Tryz.prog 118 := aZ Tryz.func118 aq aq
theorem call119 : aW Tryz.prog 119 := aZ Tryz.func119 aq aq
theorem call120 : aW Tryz.prog 120 := aZ Tryz.func120 aq aq
theorem call121 : aW Tryz.prog 121 := aZ Tryz.func121 aq aq
theorem call122 : aW Tryz.prog 122 := aZ Tryz.func122 aq aq
theorem call123 : aW Tryz.prog 123 := aZ Tryz.func123 aq aq
theorem call124 : aW Tryz.prog 124 := aZ Tryz.func124 aq aq
theorem call125 : aW Tryz.prog 125 := aZ Tryz.func125 aq aq
theorem call126 : aW Tryz.prog 126 := aZ Tryz.func126 aq aq
theorem call127 : aW Tryz.prog 127 := aZ Tryz.func127 aq aq
theorem call128 : aW Tryz.prog 128 := aZ Tryz.func128 aq aq
theorem call129 : aW Tryz.prog 129 := aZ Tryz.func129 aq aq
theorem call130 : aW Tryz.prog 130 := aZ Tryz.func130 aq aq
theorem call131 : aW Tryz.prog 131 := aZ Tryz.func131 aq aq
theorem call132 : aW Tryz.prog 132 := aZ Tryz.func132 aq aq
theorem call133 : aW Tryz.prog 133 := aZ Tryz.func133 aq aq
theorem call134 : aW Tryz.prog 134 := aZ Tryz.func134 aq aq
theorem call135 : aW Tryz.prog 135 := aZ Tryz.func135 aq aq
theorem call136 : aW Tryz.prog 136 := aZ Tryz.func136 aq aq
theorem call137 : aW Tryz.prog 137 := aZ Tryz.func137 aq aq
theorem call138 : aW Tryz.prog 138 := aZ Tryz.func138 aq aq
theorem call139 : aW Tryz.prog 139 := aZ Tryz.func139 aq aq
theorem call140 : aW Tryz.prog 140 := aZ Tryz.func140 aq aq
theorem call141 : aW Tryz.prog 141 := aZ Tryz.func141 aq aq
theorem call142 : aW Tryz.prog 142 := aZ Tryz.func142 aq aq
theorem call143 : aW Tryz.prog 143 := aZ Tryz.func143 aq aq
theorem call144 : aW Tryz.prog 144 := aZ Tryz.func144 aq aq
theorem call145 : aW Tryz.prog 145 := aZ Tryz.func145 aq aq
theorem call146 : aW Tryz.prog 146 := aZ Tryz.func146 aq aq
theorem call147 : aW Tryz.prog 147 := aZ Tryz.func147 aq aq
theorem call148 : aW Tryz.prog 148 := aZ Tryz.func148 aq aq
theorem call149 : aW Tryz.prog 149 := aZ Tryz.func149 aq aq
theorem call150 : aW Tryz.prog 150 := aZ Tryz.func150 aq aq
theorem call151 : aW Tryz.prog 151 := aZ Tryz.func151 aq aq
theorem call152 : aW Tryz.prog 152 := aZ Tryz.func152 aq aq
theorem call153 : aW Tryz.prog 153 := aZ Tryz.func153 aq aq
theorem call154 : aW Tryz.prog 154 := aZ Tryz.func154 aq aq
theorem call155 : aW Tryz.prog 155 := aZ Tryz.func155 aq aq
theorem call156 : aW Tryz.prog 156 := aZ Tryz.func156 aq aq
theorem call157 : aW Tryz.prog 157 := aZ Tryz.func157 aq aq
theorem call158 : aW Tryz.prog 158 := aZ Tryz.func158 aq aq
theorem call159 : aW Tryz.prog 159 := aZ Tryz.func159 aq aq
theorem call160 : aW Tryz.prog 160 := aZ Tryz.func160 aq aq
theorem call161 : aW Tryz.prog 161 := aZ Tryz.func161 aq aq
theorem call162 : aW Tryz.prog 162 := aZ Tryz.func162 aq aq
theorem call163 : aW Tryz.prog 163 := aZ Tryz.func163 aq aq
theorem call164 : aW Tryz.prog 164 := aZ Tryz.func164 aq aq
theorem call165 : aW Tryz.prog 165 := aZ Tryz.func165 aq aq
theorem call166 : aW Tryz.prog 166 := aZ Tryz.func166 aq aq
theorem call167 : aW Tryz.prog 167 := aZ Tryz.func167 aq aq
theorem call168 : aW Tryz.prog 168 := aZ Tryz.func168 aq aq
theorem call169 : aW Tryz.prog 169 := aZ Tryz.func169 aq aq
theorem call170 : aW Tryz.prog 170 := aZ Tryz.func170 aq aq
theorem call171 : aW Tryz.prog 171 := aZ Tryz.func171 aq aq
theorem call172 : aW Tryz.prog 172 := aZ Tryz.func172 aq aq
theorem call173 : aW Tryz.prog 173 := aZ Tryz.func173 aq aq
theorem call174 : aW Tryz.prog 174 := aZ Tryz.func174 aq aq
theorem call175 : aW Tryz.prog 175 := aZ Tryz.func175 aq aq
theorem call176 : aW Tryz.prog 176 := aZ Tryz.func176 aq aq
theorem call177 : aW Tryz.prog 177 := aZ Tryz.func177 aq aq
theorem call178 : aW Tryz.prog 178 := aZ Tryz.func178 aq aq
theorem call179 : aW Tryz.prog 179 := aZ Tryz.func179 aq aq
theorem call180 : aW Tryz.prog 180 := aZ Tryz.func180 aq aq
theorem call181 : aW Tryz.prog 181 := aZ Tryz.func181 aq aq
theorem call182 : aW Tryz.prog 182 := aZ Tryz.func182 aq aq
theorem call183 : aW Tryz.prog 183 := aZ Tryz.func183 aq aq
theorem call184 : aW Tryz.prog 184 := aZ Tryz.func184 aq aq
theorem call185 : aW Tryz.prog 185 := aZ Tryz.func185 aq aq
theorem call186 : aW Tryz.prog 186 := aZ Tryz.func186 aq aq
theorem call187 : aW Tryz.prog 187 := aZ Tryz.func187 aq aq
theorem call188 : aW Tryz.prog 188 := aZ Tryz.func188 aq aq
theorem call189 : aW Tryz.prog 189 := aZ Tryz.func189 aq aq
theorem call190 : aW Tryz.prog 190 := aZ Tryz.func190 aq aq
theorem call191 : aW Tryz.prog 191 := aZ Tryz.func191 aq aq
theorem call192 : aW Tryz.prog 192 := aZ Tryz.func192 aq aq
theorem call193 : aW Tryz.prog 193 := aZ Tryz.func193 aq aq
theorem call194 : aW Tryz.prog 194 := aZ Tryz.func194 aq aq
theorem call195 : aW Tryz.prog 195 := aZ Tryz.func195 aq aq
theorem call196 : aW Tryz.prog 196 := aZ Tryz.func196 aq aq
theorem call197 : aW Tryz.prog 197 := aZ Tryz.func197 aq aq
theorem call198 : aW Tryz.prog 198 := aZ Tryz.func198 aq aq
theorem call199 : aW Tryz.prog 199 := aZ Tryz.func199 aq aq
theorem call200 : aW Tryz.prog 200 := aZ Tryz.func200 aq aq
theorem call201 : aW Tryz.prog 201 := aZ Tryz.func201 aq aq
theorem call202 : aW Tryz.prog 202 := aZ Tryz.func202 aq aq
theorem call203 : aW Tryz.prog 203 := aZ Tryz.func203 aq aq
theorem call204 : aW Tryz.prog 204 := aZ Tryz.func204 aq aq
theorem call205 : aW Tryz.prog 205 := aZ Tryz.func205 aq aq
theorem call206 : aW Tryz.prog 206 := aZ Tryz.func206 aq aq
theorem call207 : aW Tryz.prog 207 := aZ Tryz.func207 aq aq
theorem call208 : aW Tryz.prog 208 := aZ Tryz.func208 aq aq
theorem call209 : aW Tryz.prog 209 := aZ Tryz.func209 aq aq
theorem call210 : aW Tryz.prog 210 := aZ Tryz.func210 aq aq
theorem call211 : aW Tryz.prog 211 := aZ Tryz.func211 aq aq
theorem call212 : aW Tryz.prog 212 := aZ Tryz.func212 aq aq
theorem call213 : aW Tryz.prog 213 := aZ Tryz.func213 aq aq
theorem call214 : aW Tryz.prog 214 := aZ Tryz.func214 aq aq
theorem call215 : aW Tryz.prog 215 := aZ Tryz.func215 aq aq
theorem call216 : aW Tryz.prog 216 := aZ Tryz.func216 aq aq
theorem call217 : aW Tryz.prog 217 := aZ Tryz.func217 aq aq
theorem call218 : aW Tryz.prog 218 := aZ Tryz.func218 aq aq
theorem call219 : aW Tryz.prog 219 := aZ Tryz.func219 aq aq
theorem call220 : aW Tryz.prog 220 := aZ Tryz.func220 aq aq
theorem call221 : aW Tryz.prog 221 := aZ Tryz.func221 aq aq
theorem call222 : aW Tryz.prog 222 := aZ Tryz.func222 aq aq
theorem call223 : aW Tryz.prog 223 := aZ Tryz.func223 aq aq
theorem call224 : aW Tryz.prog 224 := aZ Tryz.func224 aq aq
theorem call225 : aW Tryz.prog 225 := aZ Tryz.func225 aq aq
theorem call226 : aW Tryz.prog 226 := aZ Tryz.func226 aq aq
theorem call227 : aW Tryz.prog 227 := aZ Tryz.func227 aq aq
theorem call228 : aW Tryz.prog 228 := aZ Tryz.func228 aq aq
theorem call229 : aW Tryz.prog 229 := aZ Tryz.func229 aq aq
theorem call230 : aW Tryz.prog 230 := aZ Tryz.func230 aq aq
theorem call231 : aW Tryz.prog 231 := aZ Tryz.func231 aq aq
theorem call232 : aW Tryz.prog 232 := aZ Tryz.func232 aq aq
theorem call233 : aW Tryz.prog 233 := aZ Tryz.func233 aq aq
theorem call234 : aW Tryz.prog 234 := aZ Tryz.func234 aq aq
theorem call235 : aW Tryz.prog 235 := aZ Tryz.func235 aq aq
theorem call236 : aW Tryz.prog 236 := aZ Tryz.func236 aq aq
theorem call237 : aW Tryz.prog 237 := aZ Tryz.func237 aq aq
theorem call238 : aW Tryz.prog 238 := aZ Tryz.func238 aq aq
theorem call239 : aW Tryz.prog 239 := aZ Tryz.func239 aq aq
theorem call240 : aW Tryz.prog 240 := aZ Tryz.func240 aq aq
theorem call241 : aW Tryz.prog 241 := aZ Tryz.func241 aq aq
theorem call242 : aW Tryz.prog 242 := aZ Tryz.func242 aq aq
theorem call243 : aW Tryz.prog 243 := aZ Tryz.func243 aq aq
theorem call244 : aW Tryz.prog 244 := aZ Tryz.func244 aq aq
theorem call245 : aW Tryz.prog 245 := aZ Tryz.func245 aq aq
theorem call246 : aW Tryz.prog 246 := aZ Tryz.func246 aq aq
theorem call247 : aW Tryz.prog 247 := aZ Tryz.func247 aq aq
theorem call248 : aW Tryz.prog 248 := aZ Tryz.func248 aq aq
theorem call249 : aW Tryz.prog 249 := aZ Tryz.func249 aq aq
theorem call250 : aW Tryz.prog 250 := aZ Tryz.func250 aq aq
theorem call251 : aW Tryz.prog 251 := aZ Tryz.func251 aq aq
theorem call252 : aW Tryz.prog 252 := aZ Tryz.func252 aq aq
theorem call253 : aW Tryz.prog 253 := aZ Tryz.func253 aq aq
theorem call254 : aW Tryz.prog 254 := aZ Tryz.func254 aq aq
theorem call255 : aW Tryz.prog 255 := aZ Tryz.func255 aq aq
theorem call256 : aW Tryz.prog 256 := aZ Tryz.func256 aq aq
theorem call257 : aW Tryz.prog 257 := aZ Tryz.func257 aq aq
theorem call258 : aW Tryz.prog 258 := aZ Tryz.func258 aq aq
theorem call259 : aW Tryz.prog 259 := aZ Tryz.func259 aq aq
theorem call260 : aW Tryz.prog 260 := aZ Tryz.func260 aq aq
theorem call261 : aW Tryz.prog 261 := aZ Tryz.func261 aq aq
theorem call262 : aW Tryz.prog 262 := aZ Tryz.func262 aq aq
theorem call263 : aW Tryz.prog 263 := aZ Tryz.func263 aq aq
theorem call264 : aW Tryz.prog 264 := aZ Tryz.func264 aq aq
theorem call265 : aW Tryz.prog 265 := aZ Tryz.func265 aq aq
theorem call266 : aW Tryz.prog 266 := aZ Tryz.func266 aq aq
theorem call267 : aW Tryz.prog 267 := aZ Tryz.func267 aq aq
theorem call268 : aW Tryz.prog 268 := aZ Tryz.func268 aq aq
theorem call269 : aW Tryz.prog 269 := aZ Tryz.func269 aq aq
theorem call270 : aW Tryz.prog 270 := aZ Tryz.func270 aq aq
theorem call271 : aW Tryz.prog 271 := aZ Tryz.func271 aq aq
theorem call272 : aW Tryz.prog 272 := aZ Tryz.func272 aq aq
theorem call273 : aW Tryz.prog 273 := aZ Tryz.func273 aq aq
theorem call274 : aW Tryz.prog 274 := aZ Tryz.func274 aq aq
theorem call275 : aW Tryz.prog 275 := aZ Tryz.func275 aq aq
theorem call276 : aW Tryz.prog 276 := aZ Tryz.func276 aq aq
theorem call277 : aW Tryz.prog 277 := aZ Tryz.func277 aq aq
theorem call278 : aW Tryz.prog 278 := aZ Tryz.func278 aq aq
theorem call279 : aW Tryz.prog 279 := aZ Tryz.func279 aq aq
theorem call280 : aW Tryz.prog 280 := aZ Tryz.func280 aq aq
theorem call281 : aW Tryz.prog 281 := aZ Tryz.func281 aq aq
theorem call282 : aW Tryz.prog 282 := aZ Tryz.func282 aq aq
theorem call283 : aW Tryz.prog 283 := aZ Tryz.func283 aq aq
theorem call284 : aW Tryz.prog 284 := aZ Tryz.func284 aq aq
theorem call285 : aW Tryz.prog 285 := aZ Tryz.func285 aq aq
theorem call286 : aW Tryz.prog 286 := aZ Tryz.func286 aq aq
theorem call287 : aW Tryz.prog 287 := aZ Tryz.func287 aq aq
theorem call288 : aW Tryz.prog 288 := aZ Tryz.func288 aq aq
theorem call289 : aW Tryz.prog 289 := aZ Tryz.func289 aq aq
theorem call290 : aW Tryz.prog 290 := aZ Tryz.func290 aq aq
theorem call291 : aW Tryz.prog 291 := aZ Tryz.func291 aq aq
theorem call292 : aW Tryz.prog 292 := aZ Tryz.func292 aq aq
theorem call293 : aW Tryz.prog 293 := aZ Tryz.func293 aq aq
theorem call294 : aW Tryz.prog 294 := aZ Tryz.func294 aq aq
theorem call295 : aW Tryz.prog 295 := aZ Tryz.func295 aq aq
theorem call296 : aW Tryz.prog 296 := aZ Tryz.func296 aq aq
theorem call297 : aW Tryz.prog 297 := aZ Tryz.func297 aq aq
theorem call298 : aW Tryz.prog 298 := aZ Tryz.func298 aq aq
theorem call299 : aW Tryz.prog 299 := aZ Tryz.func299 aq aq
theorem call300 : aW Tryz.prog 300 := aZ Tryz.func300 aq aq
theorem call301 : aW Tryz.prog 301 := aZ Tryz.func301 aq aq
theorem call302 : aW Tryz.prog 302 := aZ Tryz.func302 aq aq
theorem call303 : aW Tryz.prog 303 := aZ Tryz.func303 aq aq
theorem call304 : aW Tryz.prog 304 := aZ Tryz.func304 aq aq
theorem call305 : aW Tryz.prog 305 := aZ Tryz.func305 aq aq
theorem call306 : aW Tryz.prog 306 := aZ Tryz.func306 aq aq
theorem call307 : aW Tryz.prog 307 := aZ Tryz.func307 aq aq
theorem call308 : aW Tryz.prog 308 := aZ Tryz.func308 aq aq
theorem call309 : aW Tryz.prog 309 := aZ Tryz.func309 aq aq
theorem call310 : aW Tryz.prog 310 := aZ Tryz.func310 aq aq
theorem call311 : aW Tryz.prog 311 := aZ Tryz.func311 aq aq
theorem call312 : aW Tryz.prog 312 := aZ Tryz.func312 aq aq
theorem call313 : aW Tryz.prog 313 := aZ Tryz.func313 aq aq
theorem call314 : aW Tryz.prog 314 := aZ Tryz.func314 aq aq
theorem call315 : aW Tryz.prog 315 := aZ Tryz.func315 aq aq
theorem call316 : aW Tryz.prog 316 := aZ Tryz.func316 aq aq
theorem call317 : aW Tryz.prog 317 := aZ Tryz.func317 aq aq
theorem call333 : aW Tryz.prog 333 := aZ Tryz.func333 aq aq
theorem call334 : aW Tryz.prog 334 := aZ Tryz.func334 aq aq
theorem call335 : aW Tryz.prog 335 := aZ Tryz.func335 aq aq
theorem call336 : aW Tryz.prog 336 := aZ Tryz.func336 aq aq
end Go.Proofs.YtnafpeohfbglmaaGreat
