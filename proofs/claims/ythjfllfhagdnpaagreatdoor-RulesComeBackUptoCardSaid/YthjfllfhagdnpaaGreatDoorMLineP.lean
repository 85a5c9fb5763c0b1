/- By the machine: what a line says to rules. -/
import Derived.Test.YthjfllfhagdnpaaGreatDoorMNum4
set_option linter.unusedSimpArgs false
set_option linter.unusedVariables false
namespace Go.Proofs.YthjfllfhagdnpaaGreatDoor.M
open Go.AM Go.RowKit Go.Lib Go.Proofs.YthjfllfhagdnpaaGreatDoor.Num
open Reg (Rect Spans Band)

def wR : ByteArray := ⟨#[114, 117, 108, 101, 115]⟩
def wC : ByteArray := ⟨#[99, 108, 97, 115, 115]⟩
def wA : ByteArray := ⟨#[97, 114, 101, 97]⟩
def quads : List Int → List Rect
  | a :: b :: c :: d :: r => ⟨a, b, c, d⟩ :: quads r
  | _ => []
/-- the first line: five numbers -/
def headR (r : Rules) (w : List ByteArray) : Option Rules := if (w.drop 1).all numB && decide (w.head? = some wR) then (match (w.drop 1).map numV with
  | [a, b, c, d, e] => some { r with clearance := a, width := b, ring := c, edge := d, holeGap := e }
  | _ => none) else none
def classR (r : Rules) (w : List ByteArray) : Option Rules := match w with
  | _ :: n :: a :: b :: nets => if numB a && numB b then some { r with classes := r.classes ++ [⟨n, nets, numV a, numV b⟩] } else none
  | _ => none
def areaR (r : Rules) (w : List ByteArray) : Option Rules := if (w.drop 1).all numB && decide (w.head? = some wA) then (match (w.drop 1).map numV with
  | l :: c :: q => if q.length % 4 = 0 then some { r with areas := r.areas ++ [⟨l, quads q, c⟩] } else none
  | _ => none) else none
def isClass (r : Rules) (w : List ByteArray) : Bool := decide (w.head? = some wC) && (decide (4 ≤ w.length) && decide (r.areas.length = 0))
/-- a line, by its words -/
def lineW (r : Rules) (w : List ByteArray) (k : Int) : Option Rules := if okWords w then (if k = 0 then headR r w else if isClass r w then classR r w else areaR r w) else none
def lineR (r : Rules) (s : ByteArray) (k : Int) : Option Rules := lineW r (wordsS s) k
/-- rules in a box that owns its lists -/
def hr (r : Rules) : List HC := [.p (i64 r.clearance), .p (i64 r.width), .p (i64 r.ring), .p (i64 r.edge), .p (i64 r.holeGap), .row 169 (r.classes.map kl), .row 171 (r.areas.map arr)]
theorem quads_len : ∀ (q : List Int), (quads q).length = q.length / 4
  | a :: b :: c :: d :: r => by
    have := quads_len r
    simp only [quads, List.length_cons, this]
    omega
  | [] => by simp [quads]
  | [a] => by simp [quads]
  | [a, b] => by simp [quads]
  | [a, b, c] => by simp [quads]
theorem quads_at : ∀ (q : List Int) (j : Nat), j < (quads q).length → ∃ a b c d, q[4 * j]? = some a ∧ q[4 * j + 1]? = some b ∧ q[4 * j + 2]? = some c ∧ q[4 * j + 3]? = some d ∧ (quads q)[j]? = some ⟨a, b, c, d⟩
  | a :: b :: c :: d :: r, 0, _ => ⟨a, b, c, d, rfl, rfl, rfl, rfl, rfl⟩
  | a :: b :: c :: d :: r, j + 1, h => by
    simp only [quads, List.length_cons] at h
    obtain ⟨x, y, z, u, h1, h2, h3, h4, h5⟩ := quads_at r j (by omega)
    refine ⟨x, y, z, u, ?_, ?_, ?_, ?_, by simpa [quads] using h5⟩
    · rw [show 4 * (j + 1) = 4 * j + 4 by omega]; simpa using h1
    · rw [show 4 * (j + 1) + 1 = 4 * j + 1 + 4 by omega]; simpa using h2
    · rw [show 4 * (j + 1) + 2 = 4 * j + 2 + 4 by omega]; simpa using h3
    · rw [show 4 * (j + 1) + 3 = 4 * j + 3 + 4 by omega]; simpa using h4
  | [], j, h => by simp [quads] at h
  | [a], j, h => by simp [quads] at h
  | [a, b], j, h => by simp [quads] at h
  | [a, b, c], j, h => by simp [quads] at h
end Go.Proofs.YthjfllfhagdnpaaGreatDoor.M
