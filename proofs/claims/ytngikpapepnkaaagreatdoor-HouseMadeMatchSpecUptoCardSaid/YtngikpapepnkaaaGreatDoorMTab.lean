/- The machine's table of types; how plain things are said by content. -/
import Derived.Test.YtngikpapepnkaaaGreatDoorAM3
import Derived.Test.YtngikpapepnkaaaGreatDoorProg
import Derived.Test.YtngikpapepnkaaaGreatDoorShelf
import Derived.Lib.LaidTab
import Derived.Lib.ItoaNum
set_option linter.unusedSimpArgs false
set_option linter.unusedVariables false
namespace Go.Proofs.YtngikpapepnkaaaGreatDoor.M
open Go.AM Go.RowKit
def tab : List (Nat × TI) := [(1, ⟨.sc, 1, 8, [.nilFunc], false⟩),
  (2, ⟨.int .i64, 1, 8, [.int .i64 0], false⟩),
  (3, ⟨.int .i64, 1, 8, [.int .i64 0], false⟩),
  (4, ⟨.sc, 1, 1, [.bool false], true⟩),
  (5, ⟨.int .u8, 1, 1, [.int .u8 0], false⟩),
  (6, ⟨.int .u8, 1, 1, [.int .u8 0], false⟩),
  (7, ⟨.st [(0, 1, false), (1, 1, false), (2, 1, false), (3, 1, false)], 4, 24, [.int .i64 0, .int .i64 0, .bool false, .int .u8 0], false⟩),
  (8, ⟨.st [(0, 1, false), (1, 1, false), (2, 1, false), (3, 1, false)], 4, 24, [.int .i64 0, .int .i64 0, .bool false, .int .u8 0], false⟩),
  (9, ⟨.str, 1, 16, [.string ByteArray.empty], false⟩),
  (10, ⟨.str, 1, 16, [.string ByteArray.empty], false⟩),
  (11, ⟨.str, 1, 16, [.string ByteArray.empty], false⟩),
  (12, ⟨.int .u64, 1, 8, [.int .u64 0], false⟩),
  (13, ⟨.st [(0, 1, false), (1, 1, false)], 2, 24, [.string ByteArray.empty, .int .u64 0], false⟩),
  (14, ⟨.st [(0, 1, false), (1, 1, false)], 2, 24, [.string ByteArray.empty, .int .u64 0], false⟩),
  (15, ⟨.sc, 1, 8, [.pointer none], false⟩),
  (16, ⟨.sc, 1, 8, [.pointer none], false⟩),
  (17, ⟨.sc, 1, 8, [.pointer none], false⟩),
  (18, ⟨.st [(0, 1, false)], 1, 8, [.pointer none], false⟩),
  (19, ⟨.st [(0, 1, false)], 1, 8, [.pointer none], false⟩),
  (20, ⟨.sc, 1, 16, [.nilIface], false⟩),
  (21, ⟨.int .i32, 1, 4, [.int .i32 0], false⟩),
  (22, ⟨.sl 39, 1, 24, [.slice none 0 0], false⟩),
  (23, ⟨.sl 35, 1, 24, [.slice none 0 0], false⟩),
  (24, ⟨.st [(0, 1, false), (1, 1, false)], 2, 16, [.int .i64 0, .int .i64 0], false⟩),
  (25, ⟨.st [(0, 1, false), (1, 1, false)], 2, 16, [.int .i64 0, .int .i64 0], true⟩),
  (26, ⟨.int .i64, 1, 8, [.int .i64 0], false⟩),
  (28, ⟨.sc, 1, 8, [.nilFunc], false⟩),
  (30, ⟨.sc, 1, 8, [.nilFunc], false⟩),
  (32, ⟨.sc, 1, 8, [.nilFunc], false⟩),
  (33, ⟨.sc, 1, 8, [.nilFunc], false⟩),
  (34, ⟨.st [(0, 1, false), (1, 1, false), (2, 1, false), (3, 1, false), (4, 1, false), (5, 1, false), (6, 1, false)], 7, 64, [.string ByteArray.empty, .int .i64 0, .int .i64 0, .int .i64 0, .int .i64 0, .int .i64 0, .bool false], false⟩),
  (35, ⟨.st [(0, 1, false), (1, 1, false), (2, 1, false), (3, 1, false), (4, 1, false), (5, 1, false), (6, 1, false)], 7, 64, [.string ByteArray.empty, .int .i64 0, .int .i64 0, .int .i64 0, .int .i64 0, .int .i64 0, .bool false], true⟩),
  (36, ⟨.sc, 1, 8, [.nilFunc], false⟩),
  (37, ⟨.sc, 1, 8, [.nilFunc], false⟩),
  (38, ⟨.st [(0, 1, false), (1, 1, false), (2, 1, false), (3, 1, false), (4, 1, false)], 5, 48, [.string ByteArray.empty, .int .i64 0, .bool false, .int .i64 0, .int .i64 0], false⟩),
  (39, ⟨.st [(0, 1, false), (1, 1, false), (2, 1, false), (3, 1, false), (4, 1, false)], 5, 48, [.string ByteArray.empty, .int .i64 0, .bool false, .int .i64 0, .int .i64 0], false⟩),
  (40, ⟨.sc, 1, 8, [.nilFunc], false⟩),
  (41, ⟨.sc, 1, 8, [.nilFunc], false⟩),
  (42, ⟨.sc, 1, 8, [.nilFunc], false⟩),
  (43, ⟨.sc, 1, 8, [.nilFunc], false⟩),
  (44, ⟨.sc, 1, 8, [.nilFunc], false⟩),
  (45, ⟨.mp 50 3, 1, 8, [.map none], false⟩),
  (46, ⟨.sc, 1, 8, [.nilFunc], false⟩),
  (47, ⟨.sc, 1, 8, [.nilFunc], false⟩),
  (48, ⟨.sc, 1, 8, [.nilFunc], false⟩),
  (49, ⟨.st [(0, 1, false), (1, 1, false)], 2, 24, [.string ByteArray.empty, .int .i64 0], false⟩),
  (50, ⟨.st [(0, 1, false), (1, 1, false)], 2, 24, [.string ByteArray.empty, .int .i64 0], true⟩),
  (52, ⟨.sc, 1, 8, [.nilFunc], false⟩),
  (53, ⟨.sc, 1, 8, [.nilFunc], false⟩),
  (55, ⟨.sc, 1, 8, [.nilFunc], false⟩),
  (57, ⟨.sc, 1, 8, [.nilFunc], false⟩),
  (58, ⟨.sc, 1, 8, [.nilFunc], false⟩),
  (59, ⟨.sc, 1, 8, [.nilFunc], false⟩),
  (60, ⟨.sc, 1, 8, [.nilFunc], false⟩),
  (61, ⟨.sc, 1, 8, [.nilFunc], false⟩),
  (62, ⟨.sc, 1, 8, [.nilFunc], false⟩),
  (63, ⟨.sc, 1, 8, [.nilFunc], false⟩),
  (64, ⟨.sl 9, 1, 24, [.slice none 0 0], false⟩),
  (65, ⟨.sc, 1, 8, [.nilFunc], false⟩),
  (66, ⟨.sc, 1, 8, [.nilFunc], false⟩),
  (67, ⟨.sc, 1, 8, [.nilFunc], false⟩),
  (68, ⟨.sc, 1, 8, [.nilFunc], false⟩),
  (69, ⟨.sc, 1, 8, [.nilFunc], false⟩),
  (70, ⟨.sc, 1, 8, [.nilFunc], false⟩),
  (71, ⟨.sl 3, 1, 24, [.slice none 0 0], false⟩),
  (72, ⟨.sc, 1, 8, [.nilFunc], false⟩),
  (73, ⟨.sc, 1, 8, [.nilFunc], false⟩),
  (74, ⟨.sc, 1, 8, [.nilFunc], false⟩),
  (75, ⟨.sc, 1, 16, [.nilIface], false⟩),
  (76, ⟨.sc, 1, 16, [.nilIface], false⟩),
  (78, ⟨.sc, 1, 8, [.nilFunc], false⟩),
  (79, ⟨.sc, 1, 8, [.nilFunc], false⟩),
  (80, ⟨.int .u64, 1, 8, [.int .u64 0], false⟩),
  (81, ⟨.sc, 1, 8, [.nilFunc], false⟩),
  (82, ⟨.sc, 1, 8, [.nilFunc], false⟩),
  (86, ⟨.sc, 1, 8, [.nilFunc], false⟩),
  (87, ⟨.sc, 1, 8, [.nilFunc], false⟩),
  (88, ⟨.sc, 1, 8, [.pointer none], false⟩),
  (89, ⟨.sc, 1, 8, [.nilFunc], false⟩),
  (90, ⟨.sc, 1, 8, [.nilFunc], false⟩),
  (92, ⟨.sc, 1, 8, [.nilFunc], false⟩),
  (93, ⟨.sc, 1, 8, [.nilFunc], false⟩),
  (94, ⟨.sc, 1, 8, [.nilFunc], false⟩),
  (95, ⟨.sc, 1, 8, [.nilFunc], false⟩),
  (96, ⟨.int .i64, 1, 8, [.int .i64 0], false⟩),
  (97, ⟨.sl 5, 1, 24, [.slice none 0 0], false⟩),
  (99, ⟨.sc, 1, 8, [.nilFunc], false⟩),
  (100, ⟨.sc, 1, 8, [.pointer none], false⟩),
  (101, ⟨.sc, 1, 8, [.nilFunc], false⟩),
  (102, ⟨.sc, 1, 8, [.nilFunc], false⟩),
  (103, ⟨.int .u32, 1, 4, [.int .u32 0], false⟩),
  (105, ⟨.sc, 1, 8, [.nilFunc], false⟩),
  (106, ⟨.sc, 1, 8, [.nilFunc], false⟩),
  (107, ⟨.int .u64, 1, 8, [.int .u64 0], false⟩),
  (109, ⟨.sc, 1, 8, [.nilFunc], false⟩),
  (110, ⟨.sc, 1, 8, [.nilFunc], false⟩),
  (111, ⟨.st [(0, 1, false), (1, 1, false), (2, 1, false)], 3, 48, [.string ByteArray.empty, .string ByteArray.empty, .nilIface], false⟩),
  (112, ⟨.st [(0, 1, false), (1, 1, false), (2, 1, false)], 3, 48, [.string ByteArray.empty, .string ByteArray.empty, .nilIface], false⟩),
  (113, ⟨.sc, 1, 8, [.nilFunc], false⟩),
  (114, ⟨.sc, 1, 8, [.nilFunc], false⟩),
  (116, ⟨.st [(0, 1, false), (1, 1, false)], 2, 2, [.int .u8 0, .int .u8 0], false⟩),
  (117, ⟨.st [(0, 1, false), (1, 1, false)], 2, 2, [.int .u8 0, .int .u8 0], false⟩),
  (119, ⟨.sc, 1, 8, [.nilFunc], false⟩),
  (120, ⟨.sc, 1, 8, [.nilFunc], false⟩),
  (121, ⟨.sc, 1, 8, [.pointer none], false⟩),
  (122, ⟨.sc, 1, 8, [.pointer none], false⟩),
  (123, ⟨.st [(0, 1, false)], 1, 16, [.string ByteArray.empty], false⟩),
  (124, ⟨.st [(0, 1, false)], 1, 16, [.string ByteArray.empty], false⟩),
  (126, ⟨.sc, 1, 8, [.nilFunc], false⟩),
  (127, ⟨.sc, 1, 8, [.nilFunc], false⟩),
  (129, ⟨.sc, 1, 8, [.nilFunc], false⟩),
  (130, ⟨.sc, 1, 8, [.nilFunc], false⟩),
  (133, ⟨.sc, 1, 8, [.nilFunc], false⟩),
  (134, ⟨.sc, 1, 8, [.nilFunc], false⟩),
  (137, ⟨.sc, 1, 8, [.nilFunc], false⟩),
  (138, ⟨.st [(0, 1, false), (1, 1, false), (2, 1, false), (3, 1, false)], 4, 40, [.pointer none, .pointer none, .pointer none, .string ByteArray.empty], false⟩),
  (139, ⟨.st [(0, 1, false), (1, 1, false), (2, 1, false), (3, 1, false)], 4, 40, [.pointer none, .pointer none, .pointer none, .string ByteArray.empty], false⟩),
  (143, ⟨.sc, 1, 8, [.nilFunc], false⟩),
  (144, ⟨.int .u8, 1, 1, [.int .u8 0], false⟩),
  (145, ⟨.int .u8, 1, 1, [.int .u8 0], false⟩),
  (146, ⟨.sc, 1, 8, [.nilFunc], false⟩),
  (147, ⟨.int .i32, 1, 4, [.int .i32 0], false⟩),
  (148, ⟨.int .i32, 1, 4, [.int .i32 0], false⟩),
  (149, ⟨.st [(0, 1, false), (1, 1, false), (2, 1, false), (3, 1, false), (4, 1, false), (5, 1, false), (6, 1, false), (7, 1, false), (8, 1, false), (9, 1, false), (10, 1, false)], 11, 48, [.int .u64 0, .int .u64 0, .int .u32 0, .int .u8 0, .int .u8 0, .int .u8 0, .int .u8 0, .nilFunc, .pointer none, .int .i32 0, .int .i32 0], false⟩),
  (150, ⟨.st [(0, 1, false), (1, 1, false), (2, 1, false), (3, 1, false), (4, 1, false), (5, 1, false), (6, 1, false), (7, 1, false), (8, 1, false), (9, 1, false), (10, 1, false)], 11, 48, [.int .u64 0, .int .u64 0, .int .u32 0, .int .u8 0, .int .u8 0, .int .u8 0, .int .u8 0, .nilFunc, .pointer none, .int .i32 0, .int .i32 0], false⟩)]
/-- which arguments are handed over -/
def mdL : List (Nat × Nat) := [(18, 0), (29, 0), (41, 0), (42, 0), (50, 0), (64, 0)]
def mdOf : List (Nat × Nat) → Nat → Nat → Bool
  | [], _, _ => false
  | (f, j) :: r, f', j' => match Nat.beq f f', Nat.beq j j' with
    | true, true => true
    | _, _ => mdOf r f' j'
/-- the library's variables that are read; their blocks stay -/
def Env (S : Nat → Prop) (w : World) : Prop := S 0 ∧ S 5 ∧ (∃ m : Int, w.cell? ⟨0, 0, none⟩ = some (.int .i64 m)) ∧ Lib.TabIs Tryz.prog w "internal/strconv.uint64pow10" .u64 Lib.pow10Tab
theorem gPow : Tryz.prog.globalNamed "internal/strconv.uint64pow10" = some 5 := by kernel_rfl
theorem env_keep (S S' : Nat → Prop) (w w' : World) (h : Env S w) (hS : ∀ b, S b → S' b) (hk : ∀ b, S b → w'.heap[b]? = w.heap[b]?) : Env S' w' := by
  obtain ⟨h1, h2, ⟨m, hm⟩, h3⟩ := h
  refine ⟨hS _ h1, hS _ h2, ⟨m, (World.cell?_of_block (hk _ h1)).trans hm⟩, ?_⟩
  unfold Lib.TabIs World.var? at h3 ⊢
  simp only [gPow, Option.bind_some] at h3 ⊢
  rw [hk _ h2]
  exact h3
noncomputable def C : Ctx := { P := Tryz.prog, T := lookT tab, md := mdOf mdL, E := Env, bf := fun d => Nat.beq d 20 }
set_option maxRecDepth 100000 in
theorem hC1 : tab.all (tiB Tryz.prog) = true := by kernel_rfl
set_option maxRecDepth 100000 in
theorem hC2 : tab.all (eqB' Tryz.prog) = true := by kernel_rfl
set_option maxRecDepth 100000 in
theorem hC3 : tab.all (zsB Tryz.prog) = true := by kernel_rfl
set_option maxRecDepth 100000 in
theorem hC4 : tab.all (keyB Tryz.prog) = true := by kernel_rfl
theorem hC : CtxOK C := ⟨zs_ok hC3, tab_ok hC1, fun S S' w w' h hS hk _ => env_keep S S' w w' h hS hk, by kernel_rfl, eqs_ok hC2, keys_ok hC4⟩
/-- numbers, truths, lists by content -/
def i64 (n : Int) : PV := .im (.int .i64 n)
def bool (b : Bool) : PV := .im (.bool b)
def ints (l : List Int) : PV := .sl (l.map fun n => [i64 n])
theorem map_get {α : Type} {l : List α} {i : Nat} {x : α} (f : α → List PV) (h : l[i]? = some x) : (l.map f)[i]? = some (f x) := by rw [List.getElem?_map, h]; rfl
end Go.Proofs.YtngikpapepnkaaaGreatDoor.M
