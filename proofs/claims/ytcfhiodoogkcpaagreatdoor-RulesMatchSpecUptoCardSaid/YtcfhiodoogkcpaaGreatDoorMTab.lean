/- The machine's table of types; how plain things are said by content. -/
import Derived.Test.YtcfhiodoogkcpaaGreatDoorAM3
import Derived.Test.YtcfhiodoogkcpaaGreatDoorProg
import Derived.Test.YtcfhiodoogkcpaaGreatDoorPlainRegion
import Derived.Test.YtcfhiodoogkcpaaGreatDoorShelf
import Derived.Lib.LaidTab
import Derived.Lib.ItoaNum
set_option linter.unusedSimpArgs false
set_option linter.unusedVariables false
namespace Go.Proofs.YtcfhiodoogkcpaaGreatDoor.M
open Go.AM Go.RowKit
def tab : List (Nat × TI) := [(1, ⟨.sc, 1, 8, [.nilFunc], false⟩),
  (2, ⟨.int .i64, 1, 8, [.int .i64 0], false⟩),
  (3, ⟨.int .i64, 1, 8, [.int .i64 0], false⟩),
  (4, ⟨.sc, 1, 1, [.bool false], true⟩),
  (5, ⟨.int .u8, 1, 1, [.int .u8 0], false⟩),
  (6, ⟨.int .u8, 1, 1, [.int .u8 0], false⟩),
  (7, ⟨.st [(0, 1, false), (1, 1, false), (2, 1, false), (3, 1, false)], 4, 24, [.int .i64 0, .int .i64 0, .bool false, .int .u8 0], false⟩),
  (8, ⟨.st [(0, 1, false), (1, 1, false), (2, 1, false), (3, 1, false)], 4, 24, [.int .i64 0, .int .i64 0, .bool false, .int .u8 0], false⟩),
  (9, ⟨.str, 1, 16, [.string ByteArray.empty], false⟩),
  (10, ⟨.str, 1, 16, [.string ByteArray.empty], false⟩),
  (11, ⟨.str, 1, 16, [.string ByteArray.empty], false⟩),
  (12, ⟨.int .u64, 1, 8, [.int .u64 0], false⟩),
  (13, ⟨.st [(0, 1, false), (1, 1, false)], 2, 24, [.string ByteArray.empty, .int .u64 0], false⟩),
  (14, ⟨.st [(0, 1, false), (1, 1, false)], 2, 24, [.string ByteArray.empty, .int .u64 0], false⟩),
  (15, ⟨.sc, 1, 8, [.pointer none], false⟩),
  (16, ⟨.sc, 1, 8, [.pointer none], false⟩),
  (17, ⟨.sc, 1, 8, [.pointer none], false⟩),
  (18, ⟨.st [(0, 1, false)], 1, 8, [.pointer none], false⟩),
  (19, ⟨.st [(0, 1, false)], 1, 8, [.pointer none], false⟩),
  (20, ⟨.sc, 1, 16, [.nilIface], false⟩),
  (21, ⟨.int .i32, 1, 4, [.int .i32 0], false⟩),
  (22, ⟨.sl 61, 1, 24, [.slice none 0 0], false⟩),
  (23, ⟨.sl 63, 1, 24, [.slice none 0 0], false⟩),
  (24, ⟨.st [(0, 1, false), (1, 1, false), (2, 1, false), (3, 1, false), (4, 1, false), (5, 1, false), (6, 1, false)], 7, 88, [.int .i64 0, .int .i64 0, .int .i64 0, .int .i64 0, .int .i64 0, .slice none 0 0, .slice none 0 0], false⟩),
  (25, ⟨.st [(0, 1, false), (1, 1, false), (2, 1, false), (3, 1, false), (4, 1, false), (5, 1, false), (6, 1, false)], 7, 88, [.int .i64 0, .int .i64 0, .int .i64 0, .int .i64 0, .int .i64 0, .slice none 0 0, .slice none 0 0], false⟩),
  (26, ⟨.int .i64, 1, 8, [.int .i64 0], false⟩),
  (28, ⟨.sc, 1, 8, [.nilFunc], false⟩),
  (29, ⟨.sc, 1, 8, [.nilFunc], false⟩),
  (30, ⟨.sc, 1, 8, [.nilFunc], false⟩),
  (31, ⟨.sc, 1, 8, [.nilFunc], false⟩),
  (32, ⟨.st [(0, 1, false), (1, 1, false)], 2, 16, [.int .i64 0, .int .i64 0], false⟩),
  (33, ⟨.st [(0, 1, false), (1, 1, false)], 2, 16, [.int .i64 0, .int .i64 0], true⟩),
  (35, ⟨.sc, 1, 8, [.nilFunc], false⟩),
  (36, ⟨.sc, 1, 8, [.nilFunc], false⟩),
  (37, ⟨.sc, 1, 8, [.nilFunc], false⟩),
  (38, ⟨.sl 44, 1, 24, [.slice none 0 0], false⟩),
  (40, ⟨.sc, 1, 8, [.nilFunc], false⟩),
  (41, ⟨.sc, 1, 8, [.nilFunc], false⟩),
  (42, ⟨.sc, 1, 8, [.nilFunc], false⟩),
  (43, ⟨.st [(0, 1, false), (1, 1, false), (2, 1, false), (3, 1, false)], 4, 32, [.int .i64 0, .int .i64 0, .int .i64 0, .int .i64 0], false⟩),
  (44, ⟨.st [(0, 1, false), (1, 1, false), (2, 1, false), (3, 1, false)], 4, 32, [.int .i64 0, .int .i64 0, .int .i64 0, .int .i64 0], true⟩),
  (46, ⟨.sc, 1, 8, [.nilFunc], false⟩),
  (47, ⟨.sc, 1, 8, [.nilFunc], false⟩),
  (48, ⟨.sc, 1, 8, [.pointer none], false⟩),
  (49, ⟨.sl 5, 1, 24, [.slice none 0 0], false⟩),
  (50, ⟨.st [(0, 1, false), (1, 1, false)], 2, 32, [.pointer none, .slice none 0 0], false⟩),
  (51, ⟨.st [(0, 1, false), (1, 1, false)], 2, 32, [.pointer none, .slice none 0 0], false⟩),
  (52, ⟨.sl 9, 1, 24, [.slice none 0 0], false⟩),
  (53, ⟨.sc, 1, 16, [.nilIface], false⟩),
  (54, ⟨.sc, 1, 16, [.nilIface], false⟩),
  (56, ⟨.sc, 1, 8, [.nilFunc], false⟩),
  (57, ⟨.sc, 1, 8, [.nilFunc], false⟩),
  (58, ⟨.sc, 1, 8, [.nilFunc], false⟩),
  (59, ⟨.sc, 1, 8, [.nilFunc], false⟩),
  (60, ⟨.st [(0, 1, false), (1, 1, false), (2, 1, false), (3, 1, false)], 4, 56, [.string ByteArray.empty, .slice none 0 0, .int .i64 0, .int .i64 0], false⟩),
  (61, ⟨.st [(0, 1, false), (1, 1, false), (2, 1, false), (3, 1, false)], 4, 56, [.string ByteArray.empty, .slice none 0 0, .int .i64 0, .int .i64 0], false⟩),
  (62, ⟨.st [(0, 1, false), (1, 1, false), (2, 1, false)], 3, 40, [.int .i64 0, .slice none 0 0, .int .i64 0], false⟩),
  (63, ⟨.st [(0, 1, false), (1, 1, false), (2, 1, false)], 3, 40, [.int .i64 0, .slice none 0 0, .int .i64 0], false⟩),
  (64, ⟨.sc, 1, 8, [.nilFunc], false⟩),
  (65, ⟨.sc, 1, 8, [.nilFunc], false⟩),
  (66, ⟨.sc, 1, 8, [.nilFunc], false⟩),
  (67, ⟨.sl 3, 1, 24, [.slice none 0 0], false⟩),
  (68, ⟨.sc, 1, 8, [.nilFunc], false⟩),
  (69, ⟨.sc, 1, 8, [.nilFunc], false⟩),
  (70, ⟨.sc, 1, 8, [.nilFunc], false⟩),
  (71, ⟨.sc, 1, 8, [.nilFunc], false⟩),
  (72, ⟨.sc, 1, 8, [.nilFunc], false⟩),
  (73, ⟨.sc, 1, 8, [.nilFunc], false⟩),
  (74, ⟨.sc, 1, 8, [.nilFunc], false⟩),
  (75, ⟨.sc, 1, 8, [.nilFunc], false⟩),
  (76, ⟨.sc, 1, 8, [.nilFunc], false⟩),
  (77, ⟨.sc, 1, 8, [.nilFunc], false⟩),
  (78, ⟨.sl 108, 1, 24, [.slice none 0 0], false⟩),
  (79, ⟨.sl 108, 1, 24, [.slice none 0 0], false⟩),
  (80, ⟨.sc, 1, 8, [.nilFunc], false⟩),
  (81, ⟨.sc, 1, 8, [.nilFunc], false⟩),
  (82, ⟨.sc, 1, 8, [.nilFunc], false⟩),
  (83, ⟨.sc, 1, 8, [.nilFunc], false⟩),
  (84, ⟨.sc, 1, 8, [.nilFunc], false⟩),
  (85, ⟨.sc, 1, 8, [.nilFunc], false⟩),
  (86, ⟨.sc, 1, 8, [.nilFunc], false⟩),
  (87, ⟨.sc, 1, 8, [.nilFunc], false⟩),
  (88, ⟨.sc, 1, 8, [.pointer none], false⟩),
  (89, ⟨.sc, 1, 8, [.nilFunc], false⟩),
  (90, ⟨.mp 9 4, 1, 8, [.map none], false⟩),
  (91, ⟨.sc, 1, 8, [.nilFunc], false⟩),
  (92, ⟨.sc, 1, 8, [.nilFunc], false⟩),
  (93, ⟨.sc, 1, 8, [.nilFunc], false⟩),
  (94, ⟨.sc, 1, 8, [.nilFunc], false⟩),
  (95, ⟨.sc, 1, 8, [.nilFunc], false⟩),
  (96, ⟨.sc, 1, 8, [.nilFunc], false⟩),
  (97, ⟨.sc, 1, 8, [.nilFunc], false⟩),
  (98, ⟨.sc, 1, 8, [.nilFunc], false⟩),
  (99, ⟨.sc, 1, 8, [.nilFunc], false⟩),
  (100, ⟨.sc, 1, 8, [.nilFunc], false⟩),
  (101, ⟨.sc, 1, 8, [.nilFunc], false⟩),
  (102, ⟨.sc, 1, 8, [.nilFunc], false⟩),
  (103, ⟨.sc, 1, 8, [.nilFunc], false⟩),
  (104, ⟨.sc, 1, 8, [.nilFunc], false⟩),
  (105, ⟨.sc, 1, 8, [.nilFunc], false⟩),
  (106, ⟨.sc, 1, 8, [.nilFunc], false⟩),
  (107, ⟨.st [(0, 1, false), (1, 1, false), (2, 1, false)], 3, 40, [.int .i64 0, .int .i64 0, .slice none 0 0], false⟩),
  (108, ⟨.st [(0, 1, false), (1, 1, false), (2, 1, false)], 3, 40, [.int .i64 0, .int .i64 0, .slice none 0 0], false⟩),
  (109, ⟨.sc, 1, 8, [.nilFunc], false⟩),
  (110, ⟨.sc, 1, 8, [.nilFunc], false⟩),
  (111, ⟨.sc, 1, 8, [.nilFunc], false⟩),
  (113, ⟨.sc, 1, 8, [.nilFunc], false⟩),
  (114, ⟨.sc, 1, 8, [.nilFunc], false⟩),
  (115, ⟨.sc, 1, 8, [.nilFunc], false⟩),
  (116, ⟨.sc, 1, 8, [.nilFunc], false⟩),
  (117, ⟨.sc, 1, 8, [.nilFunc], false⟩),
  (118, ⟨.sl 123, 1, 24, [.slice none 0 0], false⟩),
  (119, ⟨.sc, 1, 8, [.nilFunc], false⟩),
  (120, ⟨.sl 152, 1, 24, [.slice none 0 0], false⟩),
  (121, ⟨.sc, 1, 8, [.nilFunc], false⟩),
  (122, ⟨.st [(0, 1, false), (1, 1, false), (2, 1, false)], 3, 40, [.int .i64 0, .int .i64 0, .slice none 0 0], false⟩),
  (123, ⟨.st [(0, 1, false), (1, 1, false), (2, 1, false)], 3, 40, [.int .i64 0, .int .i64 0, .slice none 0 0], false⟩),
  (124, ⟨.sc, 1, 8, [.nilFunc], false⟩),
  (125, ⟨.sc, 1, 8, [.nilFunc], false⟩),
  (127, ⟨.sc, 1, 8, [.nilFunc], false⟩),
  (128, ⟨.sc, 1, 8, [.nilFunc], false⟩),
  (129, ⟨.sc, 1, 8, [.nilFunc], false⟩),
  (130, ⟨.sc, 1, 8, [.nilFunc], false⟩),
  (131, ⟨.int .u64, 1, 8, [.int .u64 0], false⟩),
  (132, ⟨.sc, 1, 8, [.nilFunc], false⟩),
  (133, ⟨.sc, 1, 8, [.nilFunc], false⟩),
  (134, ⟨.sc, 1, 8, [.nilFunc], false⟩),
  (135, ⟨.sl 79, 1, 24, [.slice none 0 0], false⟩),
  (137, ⟨.sc, 1, 8, [.nilFunc], false⟩),
  (138, ⟨.sc, 1, 8, [.nilFunc], false⟩),
  (139, ⟨.sc, 1, 8, [.nilFunc], false⟩),
  (141, ⟨.int .u64, 1, 8, [.int .u64 0], false⟩),
  (142, ⟨.sc, 1, 8, [.nilFunc], false⟩),
  (143, ⟨.sc, 1, 8, [.nilFunc], false⟩),
  (145, ⟨.sc, 1, 8, [.nilFunc], false⟩),
  (146, ⟨.sc, 1, 8, [.nilFunc], false⟩),
  (147, ⟨.sc, 1, 8, [.nilFunc], false⟩),
  (148, ⟨.sc, 1, 8, [.nilFunc], false⟩),
  (149, ⟨.sc, 1, 8, [.nilFunc], false⟩),
  (150, ⟨.sc, 1, 8, [.nilFunc], false⟩),
  (151, ⟨.st [(0, 1, false), (1, 1, false)], 2, 16, [.int .i64 0, .int .i64 0], false⟩),
  (152, ⟨.st [(0, 1, false), (1, 1, false)], 2, 16, [.int .i64 0, .int .i64 0], true⟩),
  (153, ⟨.sc, 1, 8, [.nilFunc], false⟩),
  (154, ⟨.sc, 1, 8, [.nilFunc], false⟩),
  (155, ⟨.int .i64, 1, 8, [.int .i64 0], false⟩),
  (157, ⟨.sc, 1, 8, [.nilFunc], false⟩),
  (158, ⟨.sc, 1, 8, [.nilFunc], false⟩),
  (159, ⟨.sc, 1, 8, [.nilFunc], false⟩),
  (160, ⟨.sc, 1, 8, [.nilFunc], false⟩),
  (161, ⟨.sc, 1, 8, [.nilFunc], false⟩),
  (162, ⟨.int .u32, 1, 4, [.int .u32 0], false⟩),
  (163, ⟨.sc, 1, 8, [.nilFunc], false⟩),
  (164, ⟨.sc, 1, 8, [.nilFunc], false⟩),
  (165, ⟨.sc, 1, 8, [.nilFunc], false⟩),
  (166, ⟨.sc, 1, 8, [.nilFunc], false⟩),
  (167, ⟨.sc, 1, 8, [.nilFunc], false⟩),
  (168, ⟨.sc, 1, 8, [.nilFunc], false⟩),
  (169, ⟨.sc, 1, 8, [.nilFunc], false⟩),
  (170, ⟨.sc, 1, 8, [.nilFunc], false⟩),
  (173, ⟨.sc, 1, 8, [.nilFunc], false⟩),
  (174, ⟨.sc, 1, 8, [.nilFunc], false⟩),
  (175, ⟨.int .u64, 1, 8, [.int .u64 0], false⟩),
  (176, ⟨.sc, 1, 8, [.nilFunc], false⟩),
  (177, ⟨.sc, 1, 8, [.nilFunc], false⟩),
  (178, ⟨.sc, 1, 8, [.nilFunc], false⟩),
  (179, ⟨.sc, 1, 8, [.pointer none], false⟩),
  (180, ⟨.sc, 1, 8, [.nilFunc], false⟩),
  (181, ⟨.sc, 1, 8, [.nilFunc], false⟩),
  (182, ⟨.sc, 1, 8, [.nilFunc], false⟩),
  (183, ⟨.sc, 1, 8, [.nilFunc], false⟩),
  (185, ⟨.sc, 1, 8, [.nilFunc], false⟩),
  (186, ⟨.sc, 1, 8, [.pointer none], false⟩),
  (188, ⟨.sc, 1, 8, [.nilFunc], false⟩),
  (189, ⟨.sc, 1, 8, [.nilFunc], false⟩),
  (193, ⟨.st [(0, 1, false), (1, 1, false)], 2, 2, [.int .u8 0, .int .u8 0], false⟩),
  (194, ⟨.st [(0, 1, false), (1, 1, false)], 2, 2, [.int .u8 0, .int .u8 0], false⟩),
  (197, ⟨.sc, 1, 8, [.nilFunc], false⟩),
  (198, ⟨.st [(0, 1, false), (1, 1, false), (2, 1, false), (3, 1, false)], 4, 40, [.pointer none, .pointer none, .pointer none, .string ByteArray.empty], false⟩),
  (199, ⟨.st [(0, 1, false), (1, 1, false), (2, 1, false), (3, 1, false)], 4, 40, [.pointer none, .pointer none, .pointer none, .string ByteArray.empty], false⟩),
  (203, ⟨.int .u8, 1, 1, [.int .u8 0], false⟩),
  (204, ⟨.int .u8, 1, 1, [.int .u8 0], false⟩),
  (205, ⟨.sc, 1, 8, [.nilFunc], false⟩),
  (206, ⟨.int .i32, 1, 4, [.int .i32 0], false⟩),
  (207, ⟨.int .i32, 1, 4, [.int .i32 0], false⟩),
  (208, ⟨.st [(0, 1, false), (1, 1, false), (2, 1, false), (3, 1, false), (4, 1, false), (5, 1, false), (6, 1, false), (7, 1, false), (8, 1, false), (9, 1, false), (10, 1, false)], 11, 48, [.int .u64 0, .int .u64 0, .int .u32 0, .int .u8 0, .int .u8 0, .int .u8 0, .int .u8 0, .nilFunc, .pointer none, .int .i32 0, .int .i32 0], false⟩),
  (209, ⟨.st [(0, 1, false), (1, 1, false), (2, 1, false), (3, 1, false), (4, 1, false), (5, 1, false), (6, 1, false), (7, 1, false), (8, 1, false), (9, 1, false), (10, 1, false)], 11, 48, [.int .u64 0, .int .u64 0, .int .u32 0, .int .u8 0, .int .u8 0, .int .u8 0, .int .u8 0, .nilFunc, .pointer none, .int .i32 0, .int .i32 0], false⟩)]
/-- which arguments are handed over -/
def mdL : List (Nat × Nat) := [(101, 0), (78, 0), (80, 0), (81, 0), (82, 0), (112, 0), (84, 0), (85, 0)]
def mdOf : List (Nat × Nat) → Nat → Nat → Bool
  | [], _, _ => false
  | (f, j) :: r, f', j' => match Nat.beq f f', Nat.beq j j' with
    | true, true => true
    | _, _ => mdOf r f' j'
/-- the library's variables that are read; their blocks stay -/
def Env (S : Nat → Prop) (w : World) : Prop := S 0 ∧ S 1 ∧ (∃ m : Int, w.cell? ⟨0, 0, none⟩ = some (.int .i64 m)) ∧ Lib.TabIs Tryz.prog w "internal/strconv.uint64pow10" .u64 Lib.pow10Tab
theorem gPow : Tryz.prog.globalNamed "internal/strconv.uint64pow10" = some 1 := by kernel_rfl
theorem env_keep (S S' : Nat → Prop) (w w' : World) (h : Env S w) (hS : ∀ b, S b → S' b) (hk : ∀ b, S b → w'.heap[b]? = w.heap[b]?) : Env S' w' := by
  obtain ⟨h1, h2, ⟨m, hm⟩, h3⟩ := h
  refine ⟨hS _ h1, hS _ h2, ⟨m, (World.cell?_of_block (hk _ h1)).trans hm⟩, ?_⟩
  unfold Lib.TabIs World.var? at h3 ⊢
  simp only [gPow, Option.bind_some] at h3 ⊢
  rw [hk _ h2]
  exact h3
noncomputable def C : Ctx := { P := Tryz.prog, T := lookT tab, md := mdOf mdL, E := Env, bl := fun f => Nat.beq f 20 || (Nat.beq f 24 || Nat.beq f 25), bt := fun t => Nat.beq t 51 }
set_option maxRecDepth 100000 in
theorem hC1 : tab.all (tiB Tryz.prog) = true := by kernel_rfl
set_option maxRecDepth 100000 in
theorem hC2 : tab.all (eqB' Tryz.prog) = true := by kernel_rfl
set_option maxRecDepth 100000 in
theorem hC3 : tab.all (zsB Tryz.prog) = true := by kernel_rfl
theorem hC : CtxOK C := ⟨zs_ok hC3, tab_ok hC1, fun S S' w w' h hS hk _ => env_keep S S' w w' h hS hk, by kernel_rfl, eqs_ok hC2⟩
/-- numbers, truths, texts, rectangles, spans, lists by content -/
def i64 (n : Int) : PV := .im (.int .i64 n)
def bool (b : Bool) : PV := .im (.bool b)
def rc (r : Reg.Rect) : List PV := [i64 r.x0, i64 r.y0, i64 r.x1, i64 r.y1]
def sp (p : Int × Int) : List PV := [i64 p.1, i64 p.2]
def rects (l : List Reg.Rect) : PV := .sl (l.map rc)
def ints (l : List Int) : PV := .sl (l.map fun n => [i64 n])
def spans (l : Reg.Spans) : PV := .sl (l.map sp)
theorem map_get {α : Type} {l : List α} {i : Nat} {x : α} (f : α → List PV) (h : l[i]? = some x) : (l.map f)[i]? = some (f x) := by rw [List.getElem?_map, h]; rfl
end Go.Proofs.YtcfhiodoogkcpaaGreatDoor.M
